/- Contracts of the functions that the law reaches, each with the plain function that it comes to, and plain facts about these. -/
import Derived.Test.YtmdmpafdpgdpoaaDoorProg
import Derived.Below
import Derived.Deep.Draws
import Derived.Deep.AppendLies
import Derived.Maps.AppendAt
import Derived.OwnWalk
import Derived.Laws.BytesArg
import Derived.Laws.MakeOwn
import Derived.Laws.OwnMore
import Derived.Deep.OwnRows
import Derived.Tactics
import Derived.Lib.ConvBytes
import Derived.Laws.Slices
import Derived.WalkKit
import Derived.KernelRfl
import Derived.RowKit3
import Derived.Deep.LoopGhost
import Derived.Deep.QuietTactic
import Derived.BigQuiet
import Derived.WideLaws
import Derived.Deep.DeepCutAuto
import Derived.Deep.CutBlock
import Derived.Deep.RegionHeld3
import Derived.Laws.Rows
import Derived.Lib.AppendStr
import Derived.ArgAppend
import Derived.Laws.IdiomCopy
import Derived.OrdersHeld
import Derived.Laws.BitsLemmas
import Derived.RowKit
import Derived.Test.YtmdmpafdpgdpoaaDoorWWords
import Derived.Test.YtmdmpafdpgdpoaaDoorWLast
import Derived.Test.YtmdmpafdpgdpoaaDoorWTab
import Derived.Test.YtmdmpafdpgdpoaaDoorWFour
import Derived.Test.YtmdmpafdpgdpoaaDoorWQPut
import Derived.Test.YtmdmpafdpgdpoaaDoorWApart
import Derived.Test.YtmdmpafdpgdpoaaDoorWArr
import Derived.Test.YtmdmpafdpgdpoaaDoorWZeros
import Derived.Test.YtmdmpafdpgdpoaaDoorWFoot
import Derived.Test.YtmdmpafdpgdpoaaDoorWKept
import Derived.Test.YtmdmpafdpgdpoaaDoorWShare
import Derived.Test.YtmdmpafdpgdpoaaDoorWN
import Derived.Test.YtmdmpafdpgdpoaaDoorWFootNe
import Derived.Test.YtmdmpafdpgdpoaaDoorWAt
import Derived.Test.YtmdmpafdpgdpoaaDoorWEqStruct
import Derived.Test.YtmdmpafdpgdpoaaDoorWRepsOne
import Derived.Test.YtmdmpafdpgdpoaaDoorWInv
import Derived.Test.YtmdmpafdpgdpoaaDoorWInvWords
import Derived.Test.YtmdmpafdpgdpoaaDoorWGuard
import Derived.Test.YtmdmpafdpgdpoaaDoorWNEv
import Derived.Test.YtmdmpafdpgdpoaaDoorWMore
import Derived.Test.YtmdmpafdpgdpoaaDoorWSized
import Derived.Shelf.Strings.Builder1
import Derived.Shelf.Strings.Builder2
import Derived.Shelf.Small.Strs
import Derived.Shelf.Strings.BuilderF
import Derived.Shelf.Strings.BuilderK
import Derived.Shelf.Strings.Builder2Cap
import Derived.Shelf.Strconv.Itoa0
import Derived.Shelf.Strconv.Itoa1
import Derived.Shelf.LaysM
import Derived.Shelf.Strconv.Itoa2
import Derived.Shelf.Strconv.Itoa3
import Derived.Shelf.Strconv.Itoa4
import Derived.Shelf.Strconv.ParseIntEmpty
import Derived.Shelf.Strconv.Clone
import Derived.Shelf.Strconv.SyntaxError
import Derived.Shelf.LaysC
import Derived.Shelf.Strconv.ToError
import Derived.Shelf.Strconv.Lower
import Derived.Shelf.Strconv.ParseUint10
import Derived.Shelf.Strconv.ParseUint10Empty
import Derived.Shelf.Strconv.ParseUint10Any
import Derived.Shelf.Strconv.ParseInt10
import Derived.Shelf.Strconv.RangeError
import Derived.Shelf.Strconv.ToErrorRange
import Derived.Shelf.Strconv.ParseUintEmpty
import Derived.Shelf.Strconv.ParseUint10b64
import Derived.Shelf.Strconv.ParseUint10b32
import Derived.Shelf.Strconv.ParseUint10b16
import Derived.Shelf.Strconv.ParseUint10b8
import Derived.Shelf.Strconv.ParseUint10At
import Derived.Shelf.Strconv.ParseInt10At64
import Derived.Shelf.Strconv.ParseInt10At32
import Derived.Shelf.Strconv.ParseInt10At16
import Derived.Shelf.Strconv.ParseInt10At8
import Derived.Shelf.Strconv.ParseInt10All
import Derived.Shelf.Strconv.ParseIntPublic10
import Derived.Shelf.Strconv.ErrVarParseInt
import Derived.Shelf.Strings.Search1
import Derived.Shelf.Strings.Search2
import Derived.Shelf.Strings.Search3
import Derived.Shelf.Strings.Count
import Derived.Shelf.Strings.Shaped
import Derived.Shelf.Strings.Split
import Derived.Shelf.Strings.Replace
import Derived.Shelf.Strings.SplitShaped
import Derived.Shelf.Bits.Mul64
import Derived.Shelf.Unicode.DecodeSlow
import Derived.Shelf.Strings.BuilderCap
import Derived.Lib.ItoaNum
import Derived.Lib.ParseIntBTie
import Derived.Lib.LaidTab
import Derived.Lib.AppendIntMem
import Derived.Handed
import Derived.HandedShaped
import Derived.ChangeOld
import Derived.ProofKit
import Derived.OpenShut
import Derived.WalkSmall
import Derived.Laws.Externs
namespace Go.Proofs.YtmdmpafdpgdpoaaDoor.P
open Go.RowKit Go.Proofs.YtmdmpafdpgdpoaaDoorW.PrintWords Go.Proofs.YtmdmpafdpgdpoaaDoorW.PrintLast Go.Proofs.YtmdmpafdpgdpoaaDoorW.PrintMore
attribute [local go_sem] max2_int min2_int max_two min_two max_three min_three max_four min_four   -- for this text's walks alone
set_option linter.unusedVariables false
set_option linter.unusedSimpArgs false
def errW : Option Int → Value
  | none => .nilIface
  | some c => .iface 0 (.int .i64 c)
theorem errW_none : errW none = .nilIface := rfl
theorem errW_some (c : Int) : errW (some c) = .iface 0 (.int .i64 c) := rfl
theorem info50 : (Tryd.prog.info? 50).map (fun i => (i.zero, i.size, i.bytes)) = some (some (.agg #[(.int .i64 0), (.int .i64 0), (.string ⟨#[]⟩), (.int .i64 0)]), 4, 40) := by kernel_rfl
structure S50 where
  f0 : Int
  f1 : Int
  f2 : ByteArray
  f3 : Int
def z50 : S50 := ⟨(0 : Int), (0 : Int), (⟨#[]⟩ : ByteArray), (0 : Int)⟩
def k50 : Kd S50 := Kd.iso (Kd.pair (Kd.int .i64) (Kd.pair (Kd.int .i64) (Kd.pair Kd.string (Kd.int .i64)))) (fun x : S50 => (x.f0, x.f1, x.f2, x.f3))
theorem k50_open {w : World} {x : S50} {cs : List Value} (h : k50.K w x cs) : cs = [.int .i64 x.f0, .int .i64 x.f1, .string x.f2, .int .i64 x.f3] := by
  obtain ⟨_, _, rfl, rfl, ⟨_, _, rfl, rfl, ⟨_, _, rfl, rfl, rfl⟩⟩⟩ := h
  exact rfl
theorem k50_mkM (w : World) (base : Nat) (ok : Nat → Prop) (x : S50)  : k50.M w base ok x [.int .i64 x.f0, .int .i64 x.f1, .string x.f2, .int .i64 x.f3] := ⟨[.int .i64 x.f0], [.int .i64 x.f1, .string x.f2, .int .i64 x.f3], rfl, rfl, ⟨[.int .i64 x.f1], [.string x.f2, .int .i64 x.f3], rfl, rfl, ⟨[.string x.f2], [.int .i64 x.f3], rfl, rfl, rfl⟩⟩⟩
def rd_T50 (xs : List S50) (i : Int) : S50 := xs.getD i.toNat z50
theorem at_T50 {w : World} {A : Option Addr} {n : Nat} {xs : List S50} (h : Kd.C k50 w A n xs) (i : Int) (h0 : 0 ≤ i) (h1 : i < n) : ∃ ad , A = some ad ∧ w.cell? (ad.add (i.toNat * 4)) = some (.int .i64 (rd_T50 xs i).f0) ∧ w.cell? ⟨(ad.add (i.toNat * 4)).block, (ad.add (i.toNat * 4)).off + 1, none⟩ = some (.int .i64 (rd_T50 xs i).f1) ∧ w.cell? ⟨(ad.add (i.toNat * 4)).block, (ad.add (i.toNat * 4)).off + 2, none⟩ = some (.string (rd_T50 xs i).f2) ∧ w.cell? ⟨(ad.add (i.toNat * 4)).block, (ad.add (i.toNat * 4)).off + 3, none⟩ = some (.int .i64 (rd_T50 xs i).f3) := by
  obtain ⟨ad, c, e, _, hK, hc0⟩ := Kd.C_get h z50 i h0 h1
  have hc : ∀ j u, c[j]? = some u → w.cell? (ad.add (i.toNat * 4 + j)) = some u := hc0
  obtain rfl := k50_open hK
  exact ⟨ad, e, hc 0 _ rfl, by rw [← add_field _ _ 1 (by omega)]; exact hc 1 _ rfl, by rw [← add_field _ _ 2 (by omega)]; exact hc 2 _ rfl, by rw [← add_field _ _ 3 (by omega)]; exact hc 3 _ rfl⟩
end Go.Proofs.YtmdmpafdpgdpoaaDoor.P

namespace Go.Proofs
open Go.Shelf
def Tryd.lays169_ren : Go.Shelf.Ren := ⟨fun | 169 => 87 | n => n, fun | 70 => 107 | 9 => 9 | 0 => 0 | 72 => 109 | 37 => 73 | 127 => 127 | 3 => 3 | 5 => 5 | n => n, fun | n => n⟩
theorem Tryd.lays169 : Go.Proofs.Lays.n169 Tryd.prog Tryd.lays169_ren := {
  mixed := by kernel_rfl
  f169 := Tryd.func87.trans (congrArg some (by kernel_rfl))
  t0 := Tryd.underlying0
  a0 := Tryd.isAgg0
  z0 := Tryd.sizeOf0
  v0 := Tryd.zeroValue0
  t3 := Tryd.underlying3
  a3 := Tryd.isAgg3
  z3 := Tryd.sizeOf3
  v3 := Tryd.zeroValue3
  t9 := Tryd.underlying9
  a9 := Tryd.isAgg9
  z9 := Tryd.sizeOf9
  v9 := Tryd.zeroValue9
  t37 := Tryd.underlying73
  a37 := Tryd.isAgg73
  z37 := Tryd.sizeOf73
  v37 := Tryd.zeroValue73
  t70 := Tryd.underlying107
  a70 := Tryd.isAgg107
  z70 := Tryd.sizeOf107
  v70 := Tryd.zeroValue107
  t72 := Tryd.underlying109
  a72 := Tryd.isAgg109
  z72 := Tryd.sizeOf109
  v72 := Tryd.zeroValue109
  t127 := Tryd.underlying127
  a127 := Tryd.isAgg127
  z127 := Tryd.sizeOf127
  v127 := Tryd.zeroValue127 }
theorem Tryd.Builder_Extra_169 : Builder.Extra Tryd.prog Tryd.lays169_ren := {
  sizeBuilder := by kernel_rfl
  liesBuilder := by kernel_rfl
  t5 := Tryd.underlying5
  a5 := Tryd.isAgg5
  z5 := Tryd.sizeOf5
  v5 := Tryd.zeroValue5
  infoByte := by kernel_rfl
  cellsByte := by kernel_rfl
  sizeByte := by kernel_rfl
  neB5 := by decide }
open Go.RowKit in
theorem Tryd.Builder_String_any (B b : Nat) (l : List UInt8) (w : World) (h : Lib.IsBuilder 109 5 B b (Lib.byteCells l) w) (hBw : B ≤ w.heap.size) :
    Calls Tryd.prog 87 #[.pointer (some ⟨b, 0, none⟩)] w fun e w' => e = .returned (.string ⟨l.toArray⟩) ∧ Below B w w' := Any.Builder_String_any Tryd.lays169 Tryd.Builder_Extra_169 B b l w h hBw
def Tryd.lays137_ren : Go.Shelf.Ren := ⟨fun | 137 => 66 | 217 => 83 | 266 => 96 | n => n, fun | 9 => 9 | 5 => 5 | 3 => 3 | n => n, fun | n => n⟩
theorem Tryd.lays137 : Go.Proofs.Lays.n137 Tryd.prog Tryd.lays137_ren := {
  mixed := by kernel_rfl
  f137 := Tryd.func66.trans (congrArg some (by kernel_rfl))
  f217 := Tryd.func83.trans (congrArg some (by kernel_rfl))
  f266 := Tryd.func96.trans (congrArg some (by kernel_rfl))
  t3 := Tryd.underlying3
  a3 := Tryd.isAgg3
  z3 := Tryd.sizeOf3
  v3 := Tryd.zeroValue3
  t5 := Tryd.underlying5
  a5 := Tryd.isAgg5
  z5 := Tryd.sizeOf5
  v5 := Tryd.zeroValue5
  t9 := Tryd.underlying9
  a9 := Tryd.isAgg9
  z9 := Tryd.sizeOf9
  v9 := Tryd.zeroValue9 }
open Go.RowKit in
theorem Tryd.strings_IndexByte (s : ByteArray) (c : Int) (w : World) :
    Calls Tryd.prog 66 #[.string s, .int .u8 c] w fun e w' => e = .returned (.int .i64 (Lib.indexByte s.data.toList c.toNat.toUInt8)) ∧ w' = w := Any.strings_IndexByte Tryd.lays137 s c w
def Tryd.laysC174_ren : Go.Shelf.Ren := ⟨fun | 174 => 69 | 247 => 84 | 245 => 85 | 287 => 97 | 279 => 98 | 280 => 99 | 281 => 100 | 282 => 101 | 321 => 109 | 322 => 110 | 316 => 111 | 171 => 113 | 205 => 112 | 243 => 120 | 246 => 119 | 283 => 122 | 284 => 123 | 285 => 124 | 286 => 125 | 129 => 127 | 317 => 126 | 318 => 128 | 319 => 129 | 320 => 130 | 337 => 131 | 338 => 132 | n => n, fun | 9 => 9 | 3 => 3 | 2 => 2 | 75 => 92 | 85 => 93 | 4 => 4 | 167 => 121 | 5 => 5 | 53 => 76 | 175 => 122 | 46 => 103 | 168 => 124 | 37 => 73 | 0 => 0 | 210 => 131 | 21 => 21 | 127 => 127 | 145 => 144 | 143 => 142 | 171 => 148 | 173 => 151 | 212 => 154 | 51 => 145 | 20 => 20 | 213 => 155 | 232 => 158 | 233 => 159 | 80 => 111 | n => n, fun | 15 => 1 | 16 => 2 | 17 => 5 | 18 => 6 | 19 => 7 | n => n⟩
theorem Tryd.laysC174 : Go.Proofs.LaysC.n174 Tryd.prog Tryd.laysC174_ren := {
  mixed := by kernel_rfl
  f129 := Tryd.func127.trans (congrArg some (by kernel_rfl))
  f171 := Tryd.func113.trans (congrArg some (by kernel_rfl))
  f174 := Tryd.func69.trans (congrArg some (by kernel_rfl))
  f205 := Tryd.func112.trans (congrArg some (by kernel_rfl))
  f243 := Tryd.func120.trans (congrArg some (by kernel_rfl))
  f245 := Tryd.func85.trans (congrArg some (by kernel_rfl))
  f246 := Tryd.func119.trans (congrArg some (by kernel_rfl))
  f247 := Tryd.func84.trans (congrArg some (by kernel_rfl))
  f279 := Tryd.func98.trans (congrArg some (by kernel_rfl))
  f280 := Tryd.func99.trans (congrArg some (by kernel_rfl))
  f281 := Tryd.func100.trans (congrArg some (by kernel_rfl))
  f282 := Tryd.func101.trans (congrArg some (by kernel_rfl))
  f283 := Tryd.func122.trans (congrArg some (by kernel_rfl))
  f284 := Tryd.func123.trans (congrArg some (by kernel_rfl))
  f285 := Tryd.func124.trans (congrArg some (by kernel_rfl))
  f286 := Tryd.func125.trans (congrArg some (by kernel_rfl))
  f287 := Tryd.func97.trans (congrArg some (by kernel_rfl))
  f316 := Tryd.func111.trans (congrArg some (by kernel_rfl))
  f317 := Tryd.func126.trans (congrArg some (by kernel_rfl))
  f318 := Tryd.func128.trans (congrArg some (by kernel_rfl))
  f319 := Tryd.func129.trans (congrArg some (by kernel_rfl))
  f320 := Tryd.func130.trans (congrArg some (by kernel_rfl))
  f321 := Tryd.func109.trans (congrArg some (by kernel_rfl))
  f322 := Tryd.func110.trans (congrArg some (by kernel_rfl))
  f337 := Tryd.func131.trans (congrArg some (by kernel_rfl))
  f338 := Tryd.func132.trans (congrArg some (by kernel_rfl))
  t0 := Tryd.underlying0
  a0 := Tryd.isAgg0
  z0 := Tryd.sizeOf0
  v0 := Tryd.zeroValue0
  t2 := Tryd.underlying2
  a2 := Tryd.isAgg2
  z2 := Tryd.sizeOf2
  v2 := Tryd.zeroValue2
  t3 := Tryd.underlying3
  a3 := Tryd.isAgg3
  z3 := Tryd.sizeOf3
  v3 := Tryd.zeroValue3
  t4 := Tryd.underlying4
  a4 := Tryd.isAgg4
  z4 := Tryd.sizeOf4
  v4 := Tryd.zeroValue4
  t5 := Tryd.underlying5
  a5 := Tryd.isAgg5
  z5 := Tryd.sizeOf5
  v5 := Tryd.zeroValue5
  t9 := Tryd.underlying9
  a9 := Tryd.isAgg9
  z9 := Tryd.sizeOf9
  v9 := Tryd.zeroValue9
  t20 := Tryd.underlying20
  a20 := Tryd.isAgg20
  z20 := Tryd.sizeOf20
  v20 := Tryd.zeroValue20
  t21 := Tryd.underlying21
  a21 := Tryd.isAgg21
  z21 := Tryd.sizeOf21
  v21 := Tryd.zeroValue21
  t37 := Tryd.underlying73
  a37 := Tryd.isAgg73
  z37 := Tryd.sizeOf73
  v37 := Tryd.zeroValue73
  t46 := Tryd.underlying103
  a46 := Tryd.isAgg103
  z46 := Tryd.sizeOf103
  v46 := Tryd.zeroValue103
  t51 := Tryd.underlying145
  a51 := Tryd.isAgg145
  z51 := Tryd.sizeOf145
  v51 := Tryd.zeroValue145
  t53 := Tryd.underlying76
  a53 := Tryd.isAgg76
  z53 := Tryd.sizeOf76
  v53 := Tryd.zeroValue76
  t75 := Tryd.underlying92
  a75 := Tryd.isAgg92
  z75 := Tryd.sizeOf92
  v75 := Tryd.zeroValue92
  t85 := Tryd.underlying93
  a85 := Tryd.isAgg93
  z85 := Tryd.sizeOf93
  v85 := Tryd.zeroValue93
  t127 := Tryd.underlying127
  a127 := Tryd.isAgg127
  z127 := Tryd.sizeOf127
  v127 := Tryd.zeroValue127
  t143 := Tryd.underlying142
  a143 := Tryd.isAgg142
  z143 := Tryd.sizeOf142
  v143 := Tryd.zeroValue142
  t145 := Tryd.underlying144
  a145 := Tryd.isAgg144
  z145 := Tryd.sizeOf144
  v145 := Tryd.zeroValue144
  t167 := Tryd.underlying121
  a167 := Tryd.isAgg121
  z167 := Tryd.sizeOf121
  v167 := Tryd.zeroValue121
  t168 := Tryd.underlying124
  a168 := Tryd.isAgg124
  z168 := Tryd.sizeOf124
  v168 := Tryd.zeroValue124
  t171 := Tryd.underlying148
  a171 := Tryd.isAgg148
  z171 := Tryd.sizeOf148
  v171 := Tryd.zeroValue148
  t173 := Tryd.underlying151
  a173 := Tryd.isAgg151
  z173 := Tryd.sizeOf151
  v173 := Tryd.zeroValue151
  t175 := Tryd.underlying122
  a175 := Tryd.isAgg122
  z175 := Tryd.sizeOf122
  v175 := Tryd.zeroValue122
  t210 := Tryd.underlying131
  a210 := Tryd.isAgg131
  z210 := Tryd.sizeOf131
  v210 := Tryd.zeroValue131
  t212 := Tryd.underlying154
  a212 := Tryd.isAgg154
  z212 := Tryd.sizeOf154
  v212 := Tryd.zeroValue154
  t213 := Tryd.underlying155
  a213 := Tryd.isAgg155
  z213 := Tryd.sizeOf155
  t232 := Tryd.underlying158
  a232 := Tryd.isAgg158
  z232 := Tryd.sizeOf158
  v232 := Tryd.zeroValue158
  t233 := Tryd.underlying159
  a233 := Tryd.isAgg159
  z233 := Tryd.sizeOf159
  v233 := Tryd.zeroValue159
  g15 := by kernel_rfl
  g16 := by kernel_rfl
  g17 := by kernel_rfl
  g18 := by kernel_rfl
  g19 := by kernel_rfl
  t80 := Tryd.underlying111
  a80 := Tryd.isAgg111
  z80 := Tryd.sizeOf111
  v80 := Tryd.zeroValue111
  i0 := by kernel_rfl
  i2 := by kernel_rfl
  i3 := by kernel_rfl
  i4 := by kernel_rfl
  i5 := by kernel_rfl
  i9 := by kernel_rfl
  i20 := by kernel_rfl
  i21 := by kernel_rfl
  i37 := by kernel_rfl
  i46 := by kernel_rfl
  i51 := by kernel_rfl
  i53 := by kernel_rfl
  i75 := by kernel_rfl
  i80 := by kernel_rfl
  i85 := by kernel_rfl
  i127 := by kernel_rfl
  i143 := by kernel_rfl
  i145 := by kernel_rfl
  i167 := by kernel_rfl
  i168 := by kernel_rfl
  i171 := by kernel_rfl
  i173 := by kernel_rfl
  i175 := by kernel_rfl
  i210 := by kernel_rfl
  i212 := by kernel_rfl
  i232 := by kernel_rfl
  i233 := by kernel_rfl
  m15 := by kernel_rfl
  m16 := by kernel_rfl
  m17 := by kernel_rfl
  m18 := by kernel_rfl
  m19 := by kernel_rfl
  c0 := by kernel_rfl
  c2 := by kernel_rfl
  c3 := by kernel_rfl
  c4 := by kernel_rfl
  c5 := by kernel_rfl
  c9 := by kernel_rfl
  c20 := by kernel_rfl
  c21 := by kernel_rfl
  c37 := by kernel_rfl
  c46 := by kernel_rfl
  c51 := by kernel_rfl
  c53 := by kernel_rfl
  c75 := by kernel_rfl
  c80 := by kernel_rfl
  c85 := by kernel_rfl
  c127 := by kernel_rfl
  c143 := by kernel_rfl
  c145 := by kernel_rfl
  c167 := by kernel_rfl
  c168 := by kernel_rfl
  c171 := by kernel_rfl
  c173 := by kernel_rfl
  c175 := by kernel_rfl
  c210 := by kernel_rfl
  c212 := by kernel_rfl
  c213 := by kernel_rfl
  c232 := by kernel_rfl
  c233 := by kernel_rfl }
open Go.RowKit in
theorem Tryd.strconv_ParseInt_10_at64_ok (s : ByteArray) (hmax : s.size ≤ 9223372036854775806) (v : Int) (h : Lib.parseIntB 64 s.data.toList = .ok v) (w : World) :
    Calls Tryd.prog 69 #[.string s, .int .i64 10, .int .i64 64] w fun e w' => e = .returned (.tuple #[.int .i64 v, .nilIface]) ∧ (w' = w ∨ ∃ t, w' = Lib.bytesWorld w 5 t) := Any.strconv_ParseInt_10_at64_ok Tryd.laysC174 s hmax v h w
open Go.RowKit in
theorem Tryd.strconv_ParseInt_10_at64_range_var (s : ByteArray) (hlim : s.size ≤ 281474976710656) (h : Lib.parseIntB 64 s.data.toList = .range) (tp : TypeId) (p : Value) (w : World) (hvar : w.var? Tryd.prog "strconv.ErrRange" = some #[.iface tp p]) :
    Calls Tryd.prog 69 #[.string s, .int .i64 10, .int .i64 64] w fun e w' => ∃ N, e = .returned (.tuple #[.int .i64 (Lib.intSat 64 s.data.toList), .iface 124 (.pointer (some ⟨N, 0, none⟩))]) ∧ w.heap.size ≤ N ∧ w'.heap[N]? = some (.cells #[.string ⟨#[80, 97, 114, 115, 101, 73, 110, 116]⟩, .string s, .iface tp p] 131 (0, 0)) ∧ Below w.heap.size w w' := Any.strconv_ParseInt_10_at64_range_var Tryd.laysC174 s hlim h tp p w hvar
def Tryd.lays155_ren : Go.Shelf.Ren := ⟨fun | 155 => 51 | 154 => 78 | 138 => 88 | 165 => 89 | 143 => 90 | 166 => 91 | 197 => 92 | 169 => 87 | 195 => 103 | 218 => 104 | 240 => 102 | 241 => 105 | 219 => 106 | 260 => 107 | 276 => 114 | 277 => 115 | 217 => 83 | 225 => 116 | 224 => 117 | 267 => 118 | 266 => 96 | 314 => 121 | n => n, fun | 9 => 9 | 3 => 3 | 4 => 4 | 72 => 109 | 0 => 0 | 76 => 114 | 105 => 116 | 21 => 21 | 5 => 5 | 70 => 107 | 20 => 20 | 37 => 73 | 75 => 92 | 127 => 127 | 164 => 134 | 46 => 103 | 119 => 138 | 139 => 141 | 138 => 140 | 146 => 146 | 51 => 145 | 80 => 111 | n => n, fun | 1 => 0 | 3 => 3 | 4 => 4 | n => n⟩
theorem Tryd.lays155 : Go.Proofs.Lays.n155 Tryd.prog Tryd.lays155_ren := {
  mixed := by kernel_rfl
  f138 := Tryd.func88.trans (congrArg some (by kernel_rfl))
  f143 := Tryd.func90.trans (congrArg some (by kernel_rfl))
  f154 := Tryd.func78.trans (congrArg some (by kernel_rfl))
  f155 := Tryd.func51.trans (congrArg some (by kernel_rfl))
  f165 := Tryd.func89.trans (congrArg some (by kernel_rfl))
  f166 := Tryd.func91.trans (congrArg some (by kernel_rfl))
  f169 := Tryd.func87.trans (congrArg some (by kernel_rfl))
  f195 := Tryd.func103.trans (congrArg some (by kernel_rfl))
  f197 := Tryd.func92.trans (congrArg some (by kernel_rfl))
  f217 := Tryd.func83.trans (congrArg some (by kernel_rfl))
  f218 := Tryd.func104.trans (congrArg some (by kernel_rfl))
  f219 := Tryd.func106.trans (congrArg some (by kernel_rfl))
  f224 := Tryd.func117.trans (congrArg some (by kernel_rfl))
  f225 := Tryd.func116.trans (congrArg some (by kernel_rfl))
  f240 := Tryd.func102.trans (congrArg some (by kernel_rfl))
  f241 := Tryd.func105.trans (congrArg some (by kernel_rfl))
  f260 := Tryd.func107.trans (congrArg some (by kernel_rfl))
  f266 := Tryd.func96.trans (congrArg some (by kernel_rfl))
  f267 := Tryd.func118.trans (congrArg some (by kernel_rfl))
  f276 := Tryd.func114.trans (congrArg some (by kernel_rfl))
  f277 := Tryd.func115.trans (congrArg some (by kernel_rfl))
  f314 := Tryd.func121.trans (congrArg some (by kernel_rfl))
  t0 := Tryd.underlying0
  a0 := Tryd.isAgg0
  z0 := Tryd.sizeOf0
  v0 := Tryd.zeroValue0
  t3 := Tryd.underlying3
  a3 := Tryd.isAgg3
  z3 := Tryd.sizeOf3
  v3 := Tryd.zeroValue3
  t4 := Tryd.underlying4
  a4 := Tryd.isAgg4
  z4 := Tryd.sizeOf4
  v4 := Tryd.zeroValue4
  t5 := Tryd.underlying5
  a5 := Tryd.isAgg5
  z5 := Tryd.sizeOf5
  v5 := Tryd.zeroValue5
  t9 := Tryd.underlying9
  a9 := Tryd.isAgg9
  z9 := Tryd.sizeOf9
  v9 := Tryd.zeroValue9
  t20 := Tryd.underlying20
  a20 := Tryd.isAgg20
  z20 := Tryd.sizeOf20
  v20 := Tryd.zeroValue20
  t21 := Tryd.underlying21
  a21 := Tryd.isAgg21
  z21 := Tryd.sizeOf21
  v21 := Tryd.zeroValue21
  t37 := Tryd.underlying73
  a37 := Tryd.isAgg73
  z37 := Tryd.sizeOf73
  v37 := Tryd.zeroValue73
  t46 := Tryd.underlying103
  a46 := Tryd.isAgg103
  z46 := Tryd.sizeOf103
  v46 := Tryd.zeroValue103
  t51 := Tryd.underlying145
  a51 := Tryd.isAgg145
  z51 := Tryd.sizeOf145
  v51 := Tryd.zeroValue145
  t70 := Tryd.underlying107
  a70 := Tryd.isAgg107
  z70 := Tryd.sizeOf107
  v70 := Tryd.zeroValue107
  t72 := Tryd.underlying109
  a72 := Tryd.isAgg109
  z72 := Tryd.sizeOf109
  v72 := Tryd.zeroValue109
  t75 := Tryd.underlying92
  a75 := Tryd.isAgg92
  z75 := Tryd.sizeOf92
  v75 := Tryd.zeroValue92
  t76 := Tryd.underlying114
  a76 := Tryd.isAgg114
  z76 := Tryd.sizeOf114
  v76 := Tryd.zeroValue114
  t105 := Tryd.underlying116
  a105 := Tryd.isAgg116
  z105 := Tryd.sizeOf116
  v105 := Tryd.zeroValue116
  t119 := Tryd.underlying138
  a119 := Tryd.isAgg138
  z119 := Tryd.sizeOf138
  t127 := Tryd.underlying127
  a127 := Tryd.isAgg127
  z127 := Tryd.sizeOf127
  v127 := Tryd.zeroValue127
  t138 := Tryd.underlying140
  a138 := Tryd.isAgg140
  z138 := Tryd.sizeOf140
  v138 := Tryd.zeroValue140
  t139 := Tryd.underlying141
  a139 := Tryd.isAgg141
  z139 := Tryd.sizeOf141
  v139 := Tryd.zeroValue141
  t146 := Tryd.underlying146
  a146 := Tryd.isAgg146
  z146 := Tryd.sizeOf146
  v146 := Tryd.zeroValue146
  t164 := Tryd.underlying134
  a164 := Tryd.isAgg134
  z164 := Tryd.sizeOf134
  v164 := Tryd.zeroValue134
  g1 := by kernel_rfl
  g3 := by kernel_rfl
  g4 := by kernel_rfl }
theorem Tryd.Builder_Extra_155 : Builder.Extra Tryd.prog Tryd.lays155_ren := {
  sizeBuilder := by kernel_rfl
  liesBuilder := by kernel_rfl
  t5 := Tryd.underlying5
  a5 := Tryd.isAgg5
  z5 := Tryd.sizeOf5
  v5 := Tryd.zeroValue5
  infoByte := by kernel_rfl
  cellsByte := by kernel_rfl
  sizeByte := by kernel_rfl
  neB5 := by decide }
open Go.RowKit Go.Lib in
theorem Tryd.strings_ReplaceAll (s old new : ByteArray) (m : Int) (w : World) (hs : s.size < 4294967281) (hm : w.cell? ⟨0, 0, none⟩ = some (.int .i64 m)) (h1 : 1 ≤ old.size) (hlen : s.size + Lib.countB s old * new.size ≤ 140737488355328) :
    Calls Tryd.prog 51 #[.string s, .string old, .string new] w fun e w' =>
      e = .returned (.string ⟨(Lib.replaceAll s.data.toList old.data.toList new.data.toList).toArray⟩) ∧ Below w.heap.size w w' := Any.strings_ReplaceAll Tryd.lays155 Tryd.Builder_Extra_155 s old new m w hs hm h1 hlen
def Tryd.laysM155_ren : Go.Shelf.Ren := ⟨fun | 155 => 51 | 154 => 78 | 138 => 88 | 165 => 89 | 143 => 90 | 166 => 91 | 197 => 92 | 169 => 87 | 195 => 103 | 218 => 104 | 240 => 102 | 241 => 105 | 219 => 106 | 260 => 107 | 276 => 114 | 277 => 115 | 217 => 83 | 225 => 116 | 224 => 117 | 267 => 118 | 266 => 96 | 314 => 121 | n => n, fun | 9 => 9 | 3 => 3 | 4 => 4 | 72 => 109 | 0 => 0 | 76 => 114 | 105 => 116 | 21 => 21 | 5 => 5 | 70 => 107 | 20 => 20 | 37 => 73 | 75 => 92 | 127 => 127 | 164 => 134 | 46 => 103 | 119 => 138 | 139 => 141 | 138 => 140 | 146 => 146 | 51 => 145 | 80 => 111 | n => n, fun | 1 => 0 | 3 => 3 | 4 => 4 | n => n⟩
theorem Tryd.laysM155 : Go.Proofs.LaysM.n155 Tryd.prog Tryd.laysM155_ren := {
  mixed := by kernel_rfl
  f138 := Tryd.func88.trans (congrArg some (by kernel_rfl))
  f143 := Tryd.func90.trans (congrArg some (by kernel_rfl))
  f154 := Tryd.func78.trans (congrArg some (by kernel_rfl))
  f155 := Tryd.func51.trans (congrArg some (by kernel_rfl))
  f165 := Tryd.func89.trans (congrArg some (by kernel_rfl))
  f166 := Tryd.func91.trans (congrArg some (by kernel_rfl))
  f169 := Tryd.func87.trans (congrArg some (by kernel_rfl))
  f195 := Tryd.func103.trans (congrArg some (by kernel_rfl))
  f197 := Tryd.func92.trans (congrArg some (by kernel_rfl))
  f217 := Tryd.func83.trans (congrArg some (by kernel_rfl))
  f218 := Tryd.func104.trans (congrArg some (by kernel_rfl))
  f219 := Tryd.func106.trans (congrArg some (by kernel_rfl))
  f224 := Tryd.func117.trans (congrArg some (by kernel_rfl))
  f225 := Tryd.func116.trans (congrArg some (by kernel_rfl))
  f240 := Tryd.func102.trans (congrArg some (by kernel_rfl))
  f241 := Tryd.func105.trans (congrArg some (by kernel_rfl))
  f260 := Tryd.func107.trans (congrArg some (by kernel_rfl))
  f266 := Tryd.func96.trans (congrArg some (by kernel_rfl))
  f267 := Tryd.func118.trans (congrArg some (by kernel_rfl))
  f276 := Tryd.func114.trans (congrArg some (by kernel_rfl))
  f277 := Tryd.func115.trans (congrArg some (by kernel_rfl))
  f314 := Tryd.func121.trans (congrArg some (by kernel_rfl))
  t0 := Tryd.underlying0
  a0 := Tryd.isAgg0
  z0 := Tryd.sizeOf0
  v0 := Tryd.zeroValue0
  t3 := Tryd.underlying3
  a3 := Tryd.isAgg3
  z3 := Tryd.sizeOf3
  v3 := Tryd.zeroValue3
  t4 := Tryd.underlying4
  a4 := Tryd.isAgg4
  z4 := Tryd.sizeOf4
  v4 := Tryd.zeroValue4
  t5 := Tryd.underlying5
  a5 := Tryd.isAgg5
  z5 := Tryd.sizeOf5
  v5 := Tryd.zeroValue5
  t9 := Tryd.underlying9
  a9 := Tryd.isAgg9
  z9 := Tryd.sizeOf9
  v9 := Tryd.zeroValue9
  t20 := Tryd.underlying20
  a20 := Tryd.isAgg20
  z20 := Tryd.sizeOf20
  v20 := Tryd.zeroValue20
  t21 := Tryd.underlying21
  a21 := Tryd.isAgg21
  z21 := Tryd.sizeOf21
  v21 := Tryd.zeroValue21
  t37 := Tryd.underlying73
  a37 := Tryd.isAgg73
  z37 := Tryd.sizeOf73
  v37 := Tryd.zeroValue73
  t46 := Tryd.underlying103
  a46 := Tryd.isAgg103
  z46 := Tryd.sizeOf103
  v46 := Tryd.zeroValue103
  t51 := Tryd.underlying145
  a51 := Tryd.isAgg145
  z51 := Tryd.sizeOf145
  v51 := Tryd.zeroValue145
  t70 := Tryd.underlying107
  a70 := Tryd.isAgg107
  z70 := Tryd.sizeOf107
  v70 := Tryd.zeroValue107
  t72 := Tryd.underlying109
  a72 := Tryd.isAgg109
  z72 := Tryd.sizeOf109
  v72 := Tryd.zeroValue109
  t75 := Tryd.underlying92
  a75 := Tryd.isAgg92
  z75 := Tryd.sizeOf92
  v75 := Tryd.zeroValue92
  t76 := Tryd.underlying114
  a76 := Tryd.isAgg114
  z76 := Tryd.sizeOf114
  v76 := Tryd.zeroValue114
  t105 := Tryd.underlying116
  a105 := Tryd.isAgg116
  z105 := Tryd.sizeOf116
  v105 := Tryd.zeroValue116
  t119 := Tryd.underlying138
  a119 := Tryd.isAgg138
  z119 := Tryd.sizeOf138
  t127 := Tryd.underlying127
  a127 := Tryd.isAgg127
  z127 := Tryd.sizeOf127
  v127 := Tryd.zeroValue127
  t138 := Tryd.underlying140
  a138 := Tryd.isAgg140
  z138 := Tryd.sizeOf140
  v138 := Tryd.zeroValue140
  t139 := Tryd.underlying141
  a139 := Tryd.isAgg141
  z139 := Tryd.sizeOf141
  v139 := Tryd.zeroValue141
  t146 := Tryd.underlying146
  a146 := Tryd.isAgg146
  z146 := Tryd.sizeOf146
  v146 := Tryd.zeroValue146
  t164 := Tryd.underlying134
  a164 := Tryd.isAgg134
  z164 := Tryd.sizeOf134
  v164 := Tryd.zeroValue134
  g1 := by kernel_rfl
  g3 := by kernel_rfl
  g4 := by kernel_rfl
  t80 := Tryd.underlying111
  a80 := Tryd.isAgg111
  z80 := Tryd.sizeOf111
  v80 := Tryd.zeroValue111
  i0 := by kernel_rfl
  i3 := by kernel_rfl
  i4 := by kernel_rfl
  i5 := by kernel_rfl
  i9 := by kernel_rfl
  i20 := by kernel_rfl
  i21 := by kernel_rfl
  i37 := by kernel_rfl
  i46 := by kernel_rfl
  i51 := by kernel_rfl
  i70 := by kernel_rfl
  i72 := by kernel_rfl
  i75 := by kernel_rfl
  i76 := by kernel_rfl
  i80 := by kernel_rfl
  i105 := by kernel_rfl
  i127 := by kernel_rfl
  i138 := by kernel_rfl
  i139 := by kernel_rfl
  i146 := by kernel_rfl
  i164 := by kernel_rfl
  m1 := by kernel_rfl
  s1_3 := fun w h => Go.Proofs.cell_of_shapedOpen_int (zero := #[.int .i64 0]) (t := 3) h (of_decide_eq_true (by kernel_rfl)) (by kernel_rfl) rfl (by kernel_rfl) (by kernel_rfl) Tryd.underlying3
  m3 := by kernel_rfl
  m4 := by kernel_rfl }
end Go.Proofs


namespace Go.Proofs.YtmdmpafdpgdpoaaDoor.P
open Go.RowKit Go.Proofs.YtmdmpafdpgdpoaaDoorW.PrintWords Go.Proofs.YtmdmpafdpgdpoaaDoorW.PrintLast Go.Proofs.YtmdmpafdpgdpoaaDoorW.PrintMore
set_option linter.unusedVariables false
set_option linter.unusedSimpArgs false
def G1 (w : World) : Prop := Lib.TabIs Tryd.prog w "internal/strconv.uint64pow10" .u64 Lib.pow10Tab
def G2 (w : World) : Prop := G1 w ∧ (∃ tp p, w.var? Tryd.prog "strconv.ErrSyntax" = some #[.iface tp p]) ∧ ∃ tp p, w.var? Tryd.prog "strconv.ErrRange" = some #[.iface tp p]
theorem var_below {W W' : World} {n : String} {cs : Array Value} (h : Below W.heap.size W W') (hv : W.var? Tryd.prog n = some cs) : W'.var? Tryd.prog n = some cs := by
  unfold World.var? at hv ⊢
  cases hg : Tryd.prog.globalNamed n with
  | none => rw [hg] at hv; exact hv
  | some g =>
    rw [hg] at hv
    simp only [Option.bind_some] at hv ⊢
    have hlt : g < W.heap.size := by
      by_cases hh : g < W.heap.size
      · exact hh
      · rw [Array.getElem?_eq_none (by omega)] at hv; cases hv
    rw [h.block g hlt]
    exact hv
theorem gl_2_2 {w w' : World} (h : Below w.heap.size w w') (hG : G2 w) : G2 w' := by
  obtain ⟨h1, ⟨t2, p2, h2⟩, t3, p3, h3⟩ := hG
  exact ⟨var_below h h1, ⟨t2, p2, var_below h h2⟩, t3, p3, var_below h h3⟩
def G3 (w : World) : Prop := G2 w ∧ ∃ m, w.cell? ⟨0, 0, none⟩ = some (.int .i64 m)
theorem gl_3_3 {w w' : World} (h : Below w.heap.size w w') (hG : G3 w) : G3 w' := by
  obtain ⟨h1, m, h2⟩ := hG
  exact ⟨gl_2_2 h h1, m, (h.cell (World.block_lt_of_cell? w _ h2)).trans h2⟩
theorem gl_3_2 {w w' : World} (h : Below w.heap.size w w') (hG : G3 w) : G2 w' := gl_2_2 h hG.1
end Go.Proofs.YtmdmpafdpgdpoaaDoor.P

namespace Go.Proofs.YtmdmpafdpgdpoaaDoor.P
open Go.RowKit Go.ChangeShapes Go.WideShapes
set_option linter.unusedVariables false
theorem returns_and_shaped {H : Type} {enc : TypeId × Value → H} {a : Assume} {C : Checked} {os : Os} {f : FuncId} {fn : Func} {s : ChangeSpec} {conds : List PathCond} {apart fresh handsOn again : Bool} {X : World → Array Value → Prop}
    (hX : ∀ (w w' : World) (args : Array Value), w.heap = w'.heap → X w args → X w' args)
    (own : ownKnob C.prog.godebug = none) (started : os.Started) (noInit : C.prog.inits.idxOf? f = none) (hfn : C.prog.funcs[f]? = some fn)
    (witness : ∃ (w : World) (tape : Tape) (i : Input), w.os = os ∧ (w.forCall tape i).Shaped C.prog ∧ i.vars = [] ∧ Input.okWide C.prog (w.forCall tape i) .any w.heap.size f i ∧
      ((s.pre enc C.prog fn conds apart (w.forCall tape i).memory i.args ∧ X (w.forCall tape i).memory i.args) ∧ sizedMet enc C.prog fn (OpenSpec.ofChange s) apart (w.forCall tape i).memory i.args) ∧ a.holds C.prog (lone (Frame.enter C.prog f i.args .normal) [] (w.forCall tape i)))
    (contract : ∀ (W : World) (base : Nat) (args : Array Value) (ds gs : List (DataW H)) (before : List MemPlace),
      (∀ (j : Nat) t v, fn.params[j]? = some t → args[j]? = some v → Value.okWide C.prog W .any base t v) →
      DataW.Whole enc C.prog fn.params.toList s.vars apart W args.toList ds gs before →
      conds.all (PathCond.test C.prog ⟨fn.params.toList, ds, s.plain.varTypes C.prog, gs⟩) = true →
      (DataW.weightsEach C.prog (fn.params.toList ++ s.plain.varTypes C.prog) (ds ++ gs)).all (· ≤ reachBytes) = true → X W args →
      W.ShapedOpen C.prog →
      a.holds C.prog (lone (Frame.enter C.prog f args .normal) [] W) →
      Calls C.prog f args W fun e W' => ∃ v, e = .returned v ∧ s.post enc C.prog fn apart fresh handsOn again W args v W') :
    ReturnsInHanded a C os f .any (fun w args => (s.pre enc C.prog fn conds apart w args ∧ X w args) ∧ sizedMet enc C.prog fn (OpenSpec.ofChange s) apart w args) (s.post enc C.prog fn apart fresh handsOn again) := by
  refine returnsInHanded_of_calls own started noInit witness ?_
  intro w tape i _ hsh _ hok hpre hholds
  obtain ⟨_, _, _, fn', hfn', _, _, _, _, hval⟩ := hok
  cases Option.some.inj (hfn'.symm.trans hfn)
  obtain ⟨⟨⟨ds, gs, before, hw, hc⟩, hx⟩, hz⟩ := hpre
  have hw' := DataW.Whole.of_heap (w' := w.forCall tape i) (by rfl) hw
  refine (contract (w.forCall tape i) w.heap.size i.args ds gs before hval hw' hc (hz.weights hw) (hX _ _ _ (by rfl) hx) hsh hholds).mono fun e W' ⟨v, he, hp⟩ => ?_
  subst he
  exact ChangeSpec.post_blind hp
end Go.Proofs.YtmdmpafdpgdpoaaDoor.P

namespace Go.Proofs.YtmdmpafdpgdpoaaDoor.P
open Go.RowKit Go.Proofs.YtmdmpafdpgdpoaaDoorW.PrintWords Go.Proofs.YtmdmpafdpgdpoaaDoorW.PrintLast Go.Proofs.YtmdmpafdpgdpoaaDoorW.PrintMore
class ZOne (W : World) (v : outParam World) : Prop where
  b : Below v.heap.size v W
instance zOneDrew (w : World) : ZOne w.drew w := ⟨(Below.refl _ w).drew⟩
instance zOneDrewN (w : World) (n : Nat) : ZOne (w.drewN n) w := ⟨pw_below_drewN (Below.refl _ w) n⟩
instance zOneAlloc (w : World) (o : Obj) : ZOne (w.alloc o) w := ⟨below_alloc (Below.refl _ w) o⟩
class ZAll (W : World) (v : outParam World) : Prop where
  b : Below v.heap.size v W
instance (priority := low) zAllRefl (w : World) : ZAll w w := ⟨Below.refl _ w⟩
instance zAllDrew (w v : World) [h : ZAll w v] : ZAll w.drew v := ⟨h.b.drew⟩
instance zAllDrewN (w v : World) (n : Nat) [h : ZAll w v] : ZAll (w.drewN n) v := ⟨pw_below_drewN h.b n⟩
instance zAllAlloc (w v : World) (o : Obj) [h : ZAll w v] : ZAll (w.alloc o) v := ⟨below_alloc h.b o⟩
theorem zB {W v : World} [z : ZAll W v] {g : Nat} {o : Obj} (h : v.heap[g]? = some o) : W.heap[g]? = some o := blk_below h z.b
section
variable {w : World} {g : Nat} {t : TypeId} {a0 a1 a2 a3 a4 a5 a6 a7 a8 a9 : Value}
theorem zC4 (h : w.heap[g]? = some (.cells #[a0, a1, a2, a3] t (0, 0))) : w.cell? ⟨g, 0, none⟩ = some a0 ∧ w.cell? ⟨g, 1, none⟩ = some a1 ∧ w.cell? ⟨g, 2, none⟩ = some a2 ∧ w.cell? ⟨g, 3, none⟩ = some a3 ∧ w.frozen? ⟨g, 0, none⟩ = false ∧ w.frozen? ⟨g, 1, none⟩ = false ∧ w.frozen? ⟨g, 2, none⟩ = false ∧ w.frozen? ⟨g, 3, none⟩ = false := ⟨(blk_cell h 0).trans rfl, (blk_cell h 1).trans rfl, (blk_cell h 2).trans rfl, (blk_cell h 3).trans rfl, blk_frozen h 0, blk_frozen h 1, blk_frozen h 2, blk_frozen h 3⟩
end
end Go.Proofs.YtmdmpafdpgdpoaaDoor.P

namespace Go.Proofs.YtmdmpafdpgdpoaaDoor.P
open Go.RowKit Go.Proofs.YtmdmpafdpgdpoaaDoorW.PrintWords Go.Proofs.YtmdmpafdpgdpoaaDoorW.PrintLast Go.Proofs.YtmdmpafdpgdpoaaDoorW.PrintMore
set_option linter.unusedVariables false
set_option linter.unusedSimpArgs false
def strings_IndexByte.f (a0 : ByteArray) (a1 : Int) : Option Int := some (Lib.indexByte a0.data.toList a1.toNat.toUInt8)
theorem strings_IndexByte.calls (a0 : ByteArray) (a1 : Int) (r : Int) (w : World) (h : strings_IndexByte.f a0 a1 = some r) :
    Calls Tryd.prog 66 #[.string a0, .int .u8 a1] w fun e w' => e = .returned (.int .i64 r) ∧ Below w.heap.size w w' := by
  injection h with h
  subst h
  refine (Tryd.strings_IndexByte a0 a1 w).mono ?_
  rintro e w' ⟨rfl, rfl⟩
  exact ⟨rfl, Below.refl _ _⟩
end Go.Proofs.YtmdmpafdpgdpoaaDoor.P

namespace Go.Proofs.YtmdmpafdpgdpoaaDoor.P
open Go.RowKit Go.Proofs.YtmdmpafdpgdpoaaDoorW.PrintWords Go.Proofs.YtmdmpafdpgdpoaaDoorW.PrintLast Go.Proofs.YtmdmpafdpgdpoaaDoorW.PrintMore
attribute [local go_sem] max2_int min2_int max_two min_two max_three min_three max_four min_four   -- for this text's walks alone
set_option linter.unusedVariables false
set_option linter.unusedSimpArgs false
mutual
def lex_kind.j0 : Nat → Int → Bool → Option (Int)
  | 0, _, _ => none
  | k + 1, x0, x3 => if x3 = true then (some 3) else (if x0 ≥ 65 then (lex_kind.j1 k x0 (decide (x0 ≤ 90))) else (lex_kind.j1 k x0 false))
def lex_kind.j1 : Nat → Int → Bool → Option (Int)
  | 0, _, _ => none
  | k + 1, x0, x10 => if x10 = true then (some 3) else (if x0 ≥ 48 then (lex_kind.j2 k x0 (decide (x0 ≤ 57))) else (lex_kind.j2 k x0 false))
def lex_kind.j2 : Nat → Int → Bool → Option (Int)
  | 0, _, _ => none
  | k + 1, x0, x17 => if x17 = true then (some 2) else (if x0 = 32 then (some 1) else (if x0 = 34 then (some 4) else ((strings_IndexByte.f (⟨#[43, 45, 42, 47, 37, 94, 38, 61, 60, 62, 40, 41, 44, 58]⟩ : ByteArray) x0).bind fun t102 => (if t102 ≥ 0 then (some 5) else (some 0)))))
end
def lex_kind.f (k : Nat) (a0 : Int) : Option (Int) := if a0 ≥ 97 then (lex_kind.j0 k a0 (decide (a0 ≤ 122))) else (lex_kind.j0 k a0 false)
set_option maxHeartbeats 8000000 in
set_option maxRecDepth 100000 in
theorem lex_kind.calls (k : Nat) (a0 : Int) (r : Int) (w : World) (h : lex_kind.f k a0 = some r) :
    Calls Tryd.prog 48 #[.int .u8 a0] w fun e w' => e = .returned (.int .i64 r) ∧ Below w.heap.size w w' := by
  have HB := Aside0.mk (Below.refl w.heap.size w)
  have H : (if a0 ≥ 97 then (lex_kind.j0 k a0 (decide (a0 ≤ 122))) else (lex_kind.j0 k a0 false)) = some r := h
  clear h
  have HC2 := Aside0.mk H
  clear H
  go_enter Tryd.func48, Tryd.ntmps48
  go_upto_region 1 with (fail)
  go_cut [3] (fun v3 wc => ∃ (kq : Nat) (x3_1 : Bool), v3 = .bool x3_1 ∧ Aside0 (lex_kind.j0 kq a0 x3_1 = some r) ∧ Aside0 (kq ≤ k) ∧ Aside0 (Below w.heap.size w wc))
  case first =>
    have H := HC2.out
    clear HC2
    by_cases c3 : a0 ≥ 97
    · rw [if_pos c3] at H
      have c3b0 : decide (97 ≤ a0) = true := decide_eq_true c3
      clear c3
      (first | rw [c3b0] | (simp only [i64_w, i32_w]; rw [c3b0]) | skip)
      have H' := Aside0.mk H
      clear H
      go_wp2
      go_meet
      case rel => exact ⟨_, (decide (a0 ≤ 122)), (by first | rfl | (simp; done) | (simp [*]; done)), H', ⟨by first | omega | exact Nat.le_refl _⟩, ⟨by repeat first | with_reducible exact HB.out | apply zS | exact HB.out⟩⟩
    · rw [if_neg c3] at H
      have c3b0 : decide (97 ≤ a0) = false := decide_eq_false c3
      clear c3
      (first | rw [c3b0] | (simp only [i64_w, i32_w]; rw [c3b0]) | skip)
      have H' := Aside0.mk H
      clear H
      go_wp2
      go_meet
      case rel => exact ⟨_, (false), (by first | rfl | (simp; done) | (simp [*]; done)), H', ⟨by first | omega | exact Nat.le_refl _⟩, ⟨by repeat first | with_reducible exact HB.out | apply zS | exact HB.out⟩⟩
  case rest =>
    clear HC2
    try clear p2
    try clear c3
    try clear c3b0
    obtain ⟨kq, x3_1, rfl, HA, HJ1, HB⟩ := hcut
    cases kq with
    | zero => exact absurd HA.out (by simp [lex_kind.j0])
    | succ kj1 =>
      have H := HA.out
      clear HA
      simp only [lex_kind.j0] at H
      by_cases c4 : x3_1 = true
      · subst c4
        have H1 : (some 3) = some r := by rw [if_pos rfl] at H; exact H
        clear H
        have H := H1
        clear H1
        obtain rfl := Option.some.inj H
        go_wp2
        go_ret
        exact ⟨by first | rfl | (simp [errW_none, errW_some] <;> rfl) | (simp [*, errW_none, errW_some] <;> rfl), by repeat first | with_reducible exact HB.out | apply zS | exact HB.out⟩
      · replace c4 := Bool.eq_false_iff.mpr c4
        subst c4
        have H1 : (if a0 ≥ 65 then (lex_kind.j1 kj1 a0 (decide (a0 ≤ 90))) else (lex_kind.j1 kj1 a0 false)) = some r := by rw [if_neg (show ¬ (false = true) by decide)] at H; exact H
        clear H
        have H := H1
        clear H1
        have HC5 := Aside0.mk H
        clear H
        go_upto_region 2 with (fail)
        go_cut [10] (fun v10 wc => ∃ (kq : Nat) (x10_4 : Bool), v10 = .bool x10_4 ∧ Aside0 (lex_kind.j1 kq a0 x10_4 = some r) ∧ Aside0 (kq ≤ kj1) ∧ Aside0 (Below w.heap.size w wc))
        case first =>
          have H := HC5.out
          clear HC5
          by_cases c6 : a0 ≥ 65
          · rw [if_pos c6] at H
            have c6b0 : decide (65 ≤ a0) = true := decide_eq_true c6
            clear c6
            (first | rw [c6b0] | (simp only [i64_w, i32_w]; rw [c6b0]) | skip)
            have H' := Aside0.mk H
            clear H
            go_wp2
            go_meet
            case rel => exact ⟨_, (decide (a0 ≤ 90)), (by first | rfl | (simp; done) | (simp [*]; done)), H', ⟨by have := HJ1.out; first | omega | exact Nat.le_refl _⟩, ⟨by repeat first | with_reducible exact HB.out | apply zS | exact HB.out⟩⟩
          · rw [if_neg c6] at H
            have c6b0 : decide (65 ≤ a0) = false := decide_eq_false c6
            clear c6
            (first | rw [c6b0] | (simp only [i64_w, i32_w]; rw [c6b0]) | skip)
            have H' := Aside0.mk H
            clear H
            go_wp2
            go_meet
            case rel => exact ⟨_, (false), (by first | rfl | (simp; done) | (simp [*]; done)), H', ⟨by have := HJ1.out; first | omega | exact Nat.le_refl _⟩, ⟨by repeat first | with_reducible exact HB.out | apply zS | exact HB.out⟩⟩
        case rest =>
          clear HC5
          try clear p2
          try clear c3
          try clear c3b0
          try clear c4
          try clear c6
          try clear c6b0
          try clear p2
          obtain ⟨kq, x10_4, rfl, HA, HJ4, HB⟩ := hcut
          cases kq with
          | zero => exact absurd HA.out (by simp [lex_kind.j1])
          | succ kj4 =>
            have H := HA.out
            clear HA
            simp only [lex_kind.j1] at H
            by_cases c7 : x10_4 = true
            · subst c7
              have H1 : (some 3) = some r := by rw [if_pos rfl] at H; exact H
              clear H
              have H := H1
              clear H1
              obtain rfl := Option.some.inj H
              go_wp2
              go_ret
              exact ⟨by first | rfl | (simp [errW_none, errW_some] <;> rfl) | (simp [*, errW_none, errW_some] <;> rfl), by repeat first | with_reducible exact HB.out | apply zS | exact HB.out⟩
            · replace c7 := Bool.eq_false_iff.mpr c7
              subst c7
              have H1 : (if a0 ≥ 48 then (lex_kind.j2 kj4 a0 (decide (a0 ≤ 57))) else (lex_kind.j2 kj4 a0 false)) = some r := by rw [if_neg (show ¬ (false = true) by decide)] at H; exact H
              clear H
              have H := H1
              clear H1
              have HC8 := Aside0.mk H
              clear H
              go_upto_region 3 with (fail)
              go_cut [17] (fun v17 wc => ∃ (kq : Nat) (x17_7 : Bool), v17 = .bool x17_7 ∧ Aside0 (lex_kind.j2 kq a0 x17_7 = some r) ∧ Aside0 (kq ≤ kj4) ∧ Aside0 (Below w.heap.size w wc))
              case first =>
                have H := HC8.out
                clear HC8
                by_cases c9 : a0 ≥ 48
                · rw [if_pos c9] at H
                  have c9b0 : decide (48 ≤ a0) = true := decide_eq_true c9
                  clear c9
                  (first | rw [c9b0] | (simp only [i64_w, i32_w]; rw [c9b0]) | skip)
                  have H' := Aside0.mk H
                  clear H
                  go_wp2
                  go_meet
                  case rel => exact ⟨_, (decide (a0 ≤ 57)), (by first | rfl | (simp; done) | (simp [*]; done)), H', ⟨by have := HJ1.out; have := HJ4.out; first | omega | exact Nat.le_refl _⟩, ⟨by repeat first | with_reducible exact HB.out | apply zS | exact HB.out⟩⟩
                · rw [if_neg c9] at H
                  have c9b0 : decide (48 ≤ a0) = false := decide_eq_false c9
                  clear c9
                  (first | rw [c9b0] | (simp only [i64_w, i32_w]; rw [c9b0]) | skip)
                  have H' := Aside0.mk H
                  clear H
                  go_wp2
                  go_meet
                  case rel => exact ⟨_, (false), (by first | rfl | (simp; done) | (simp [*]; done)), H', ⟨by have := HJ1.out; have := HJ4.out; first | omega | exact Nat.le_refl _⟩, ⟨by repeat first | with_reducible exact HB.out | apply zS | exact HB.out⟩⟩
              case rest =>
                clear HC8
                try clear p2
                try clear c3
                try clear c3b0
                try clear c4
                try clear c6
                try clear c6b0
                try clear c7
                try clear c9
                try clear c9b0
                try clear p2
                obtain ⟨kq, x17_7, rfl, HA, HJ7, HB⟩ := hcut
                cases kq with
                | zero => exact absurd HA.out (by simp [lex_kind.j2])
                | succ kj7 =>
                  have H := HA.out
                  clear HA
                  simp only [lex_kind.j2] at H
                  by_cases c10 : x17_7 = true
                  · subst c10
                    have H1 : (some 2) = some r := by rw [if_pos rfl] at H; exact H
                    clear H
                    have H := H1
                    clear H1
                    obtain rfl := Option.some.inj H
                    go_wp2
                    go_ret
                    exact ⟨by first | rfl | (simp [errW_none, errW_some] <;> rfl) | (simp [*, errW_none, errW_some] <;> rfl), by repeat first | with_reducible exact HB.out | apply zS | exact HB.out⟩
                  · replace c10 := Bool.eq_false_iff.mpr c10
                    subst c10
                    have H1 : (if a0 = 32 then (some 1) else (if a0 = 34 then (some 4) else ((strings_IndexByte.f (⟨#[43, 45, 42, 47, 37, 94, 38, 61, 60, 62, 40, 41, 44, 58]⟩ : ByteArray) a0).bind fun t102 => (if t102 ≥ 0 then (some 5) else (some 0))))) = some r := by rw [if_neg (show ¬ (false = true) by decide)] at H; exact H
                    clear H
                    have H := H1
                    clear H1
                    by_cases c11 : a0 = 32
                    · rw [if_pos c11] at H
                      have c11b0 : (a0 == 32) = true := beq_iff_eq.mpr c11
                      have c11b1 : (a0 != 32) = false := bne_eq_false_iff_eq.mpr c11
                      clear c11
                      obtain rfl := Option.some.inj H
                      go_wp2
                      go_ret
                      exact ⟨by first | rfl | (simp [errW_none, errW_some] <;> rfl) | (simp [*, errW_none, errW_some] <;> rfl), by repeat first | with_reducible exact HB.out | apply zS | exact HB.out⟩
                    · rw [if_neg c11] at H
                      have c11b0 : (a0 == 32) = false := beq_eq_false_iff_ne.mpr c11
                      have c11b1 : (a0 != 32) = true := bne_iff_ne.mpr c11
                      by_cases c12 : a0 = 34
                      · rw [if_pos c12] at H
                        have c12b0 : (a0 == 34) = true := beq_iff_eq.mpr c12
                        have c12b1 : (a0 != 34) = false := bne_eq_false_iff_eq.mpr c12
                        clear c12
                        obtain rfl := Option.some.inj H
                        go_wp2
                        go_ret
                        exact ⟨by first | rfl | (simp [errW_none, errW_some] <;> rfl) | (simp [*, errW_none, errW_some] <;> rfl), by repeat first | with_reducible exact HB.out | apply zS | exact HB.out⟩
                      · rw [if_neg c12] at H
                        have c12b0 : (a0 == 34) = false := beq_eq_false_iff_ne.mpr c12
                        have c12b1 : (a0 != 34) = true := bne_iff_ne.mpr c12
                        replace H := Option.bind_eq_some_iff.mp H
                        obtain ⟨t102, A130, H⟩ := H
                        replace H : (if t102 ≥ 0 then (some 5) else (some 0)) = some r := H
                        have A13 := Aside0.mk A130
                        clear A130
                        by_cases c14 : t102 ≥ 0
                        · rw [if_pos c14] at H
                          have c14b0 : decide (0 ≤ t102) = true := decide_eq_true c14
                          clear c14
                          obtain rfl := Option.some.inj H
                          go_wp2_with (first | ((with_reducible refine gate_callee (f := 66) rfl ?_); refine goesL_ (some 32) rfl rfl Tryd.func66 (by kernel_rfl) rfl #[.string (⟨#[43, 45, 42, 47, 37, 94, 38, 61, 60, 62, 40, 41, 44, 58]⟩ : ByteArray), .int .u8 a0] rfl (by (try simp only [List.map_toArray, List.map_cons, List.map_nil]); first | done | rfl | (simp only [List.length_drop, List.length_take]; rfl)) ?_; (with_reducible refine (strings_IndexByte.calls (⟨#[43, 45, 42, 47, 37, 94, 38, 61, 60, 62, 40, 41, 44, 58]⟩ : ByteArray) a0 t102 _ A13.out).mono ?_); rintro e w15 ⟨rfl, hb⟩; refine ⟨_, rfl, ?_⟩; have n0_ := Aside0.mk (below_step (by repeat first | with_reducible exact HB.out | apply zS | exact HB.out) hb); clear HB; have HB := n0_; clear n0_; (try clear hb); (try clear hb2); (try clear hk); (try clear hi)))
                          go_ret
                          exact ⟨by first | rfl | (simp [errW_none, errW_some] <;> rfl) | (simp [*, errW_none, errW_some] <;> rfl), by repeat first | with_reducible exact HB.out | apply zS | exact HB.out⟩
                        · rw [if_neg c14] at H
                          have c14b0 : decide (0 ≤ t102) = false := decide_eq_false c14
                          clear c14
                          obtain rfl := Option.some.inj H
                          go_wp2_with (first | ((with_reducible refine gate_callee (f := 66) rfl ?_); refine goesL_ (some 32) rfl rfl Tryd.func66 (by kernel_rfl) rfl #[.string (⟨#[43, 45, 42, 47, 37, 94, 38, 61, 60, 62, 40, 41, 44, 58]⟩ : ByteArray), .int .u8 a0] rfl (by (try simp only [List.map_toArray, List.map_cons, List.map_nil]); first | done | rfl | (simp only [List.length_drop, List.length_take]; rfl)) ?_; (with_reducible refine (strings_IndexByte.calls (⟨#[43, 45, 42, 47, 37, 94, 38, 61, 60, 62, 40, 41, 44, 58]⟩ : ByteArray) a0 t102 _ A13.out).mono ?_); rintro e w16 ⟨rfl, hb⟩; refine ⟨_, rfl, ?_⟩; have n0_ := Aside0.mk (below_step (by repeat first | with_reducible exact HB.out | apply zS | exact HB.out) hb); clear HB; have HB := n0_; clear n0_; (try clear hb); (try clear hb2); (try clear hk); (try clear hi)))
                          go_ret
                          exact ⟨by first | rfl | (simp [errW_none, errW_some] <;> rfl) | (simp [*, errW_none, errW_some] <;> rfl), by repeat first | with_reducible exact HB.out | apply zS | exact HB.out⟩
end Go.Proofs.YtmdmpafdpgdpoaaDoor.P

namespace Go.Proofs.YtmdmpafdpgdpoaaDoor.P
open Go.RowKit Go.Proofs.YtmdmpafdpgdpoaaDoorW.PrintWords Go.Proofs.YtmdmpafdpgdpoaaDoorW.PrintLast Go.Proofs.YtmdmpafdpgdpoaaDoorW.PrintMore
set_option linter.unusedVariables false
set_option linter.unusedSimpArgs false
abbrev bX := Tryd.Builder_Extra_169
set_option maxHeartbeats 1000000 in
set_option maxRecDepth 100000 in
theorem copy_used (b : Nat) (w : World) (h0 : w.cell? ⟨b, 0, none⟩ = some (.pointer (some ⟨b, 0, none⟩))) :
    Calls Tryd.prog 102 #[.pointer (some ⟨b, 0, none⟩)] w fun e w' => e = .returned (.tuple #[]) ∧ w' = w := by
  obtain ⟨j, hj, _⟩ := Option.map_eq_some_iff.1 bX.sizeBuilder
  have u109 := Tryd.underlying109
  have u107 := Tryd.underlying107
  go_enter Tryd.func102, Tryd.ntmps102
  go_wp2
  rw [Lib.run_neq_ptr_same w _ u107 hj]
  go_wp2
  go_end0
  exact ⟨rfl, rfl⟩
set_option maxHeartbeats 1000000 in
set_option maxRecDepth 100000 in
theorem copy_fresh (b : Nat) (w : World) (h0 : w.cell? ⟨b, 0, none⟩ = some (.pointer none)) (hsh : w.shape? b = some (109, 2)) (hfz : w.frozen? ⟨b, 0, none⟩ = false) :
    Calls Tryd.prog 102 #[.pointer (some ⟨b, 0, none⟩)] w fun e w' => e = .returned (.tuple #[]) ∧ w' = w.setCell ⟨b, 0, none⟩ (.pointer (some ⟨b, 0, none⟩)) := by
  obtain ⟨j, hj, hjs⟩ := Option.map_eq_some_iff.1 bX.sizeBuilder
  have u109 := Tryd.underlying109
  have u107 := Tryd.underlying107
  have u134 := Tryd.underlying134
  go_enter Tryd.func102, Tryd.ntmps102
  go_wp2
  rw [Lib.run_to_unsafe w ⟨b, 0, none⟩ u107 u134 hj (by rw [hjs]; decide) hsh (Nat.zero_lt_succ 1)]
  simp only [Result.andThen]
  rw [Oper.upon_value]
  go_wp2
  rw [run_callFunc_extern Tryd.func114 (by kernel_rfl) (by kernel_rfl) (by kernel_rfl) (e := Extern.AbiNoEscape.same) (by kernel_rfl)]
  rw [Lib.run_noEscape]
  simp only [Result.andThen]
  rw [Oper.upon_value]
  go_wp2
  rw [Lib.run_from_unsafe w ⟨b, 0, none⟩ u134 u107 hj hsh bX.liesBuilder]
  simp only [Result.andThen]
  rw [Oper.upon_value]
  go_wp2
  go_end0
  exact ⟨rfl, rfl⟩
theorem copy_any (B b : Nat) (bs : List Value) (w : World) (h : Lib.IsBuilder 109 5 B b bs w) :
    Calls Tryd.prog 102 #[.pointer (some ⟨b, 0, none⟩)] w fun e w' => e = .returned (.tuple #[]) ∧ Lib.BuilderAt 109 5 B b (.pointer (some ⟨b, 0, none⟩)) bs w' ∧ Below B w w' := by
  rcases h with h | h
  · refine (copy_fresh b w h.cell0 h.shape h.frozen0).mono ?_
    rintro e w' ⟨rfl, rfl⟩
    exact ⟨rfl, h.used _, (Below.refl B w).setCell (p := ⟨b, 0, none⟩) h.1 _⟩
  · refine (copy_used b w h.cell0).mono ?_
    rintro e w' ⟨rfl, rfl⟩
    exact ⟨rfl, h, Below.refl B _⟩
set_option maxHeartbeats 2000000 in
set_option maxRecDepth 100000 in
theorem write_byte (B b : Nat) (bs : List Value) (c : Int) (w : World) (h : Lib.IsBuilder 109 5 B b bs w) (hlen : bs.length + 1 ≤ 140737488355328) (hBw : B ≤ w.heap.size) :
    Calls Tryd.prog 86 #[.pointer (some ⟨b, 0, none⟩), .int .u8 c] w fun e w' => e = .returned .nilIface ∧ Lib.IsBuilder 109 5 B b (bs ++ [.int .u8 c]) w' ∧ Below B w w' := by
  obtain ⟨i0, hi, hz0, hz1, hz2⟩ := info_parts bX.infoByte
  have u109 := Tryd.underlying109
  have u107 := Tryd.underlying107
  have u73 := Tryd.underlying73
  have u5 := Tryd.underlying5
  have hcopy := copy_any B b bs w h
  go_enter Tryd.func86, Tryd.ntmps86
  go_wp2_with (go_at_call 102; refine hcopy.mono ?_)
  rintro e w1 ⟨rfl, h1, hb1⟩
  obtain ⟨hB, v, hbk, hown, hne⟩ := h1
  have c0 : w1.cell? ⟨b, 0, none⟩ = some (.pointer (some ⟨b, 0, none⟩)) := by rw [Lib.cell_of_heap hbk]; rfl
  have c1 : w1.cell? ⟨b, 1, none⟩ = some v := by rw [Lib.cell_of_heap hbk]; rfl
  go_wp2_with (at_builtin; refine wpList_append_own _ rfl _ _ 73 rfl B 5 i0 (.int .u8 0) 1 1 u73 hi hz0 hz1 hz2 rfl (by decide) _ _ _ rfl (hown.alloc _) ⟨w1.heap.size, 0, none⟩ 1 1 [.int .u8 c] rfl rfl ?c1 ?c2 ?c3 ?c4 ?c5 ?_)
  case c1 =>
    intro j u hj
    match j, hj with
    | 0, hj => simp at hj; subst hj; simp [Addr.add]
  case c2 => intro u hu; simp at hu; subst hu; rfl
  case c3 => unfold maxLen; omega
  case c4 => omega
  case c5 => have := hb1.size; simp; omega
  intro v' w2 hown' hgrow _
  have hlt : b < w1.heap.size := by
    rcases Nat.lt_or_ge b w1.heap.size with h' | h'
    · exact h'
    · simp [Array.getElem?_eq_none h'] at hbk
  have hb2 : w2.heap[b]? = some (.cells #[.pointer (some ⟨b, 0, none⟩), v] 109 (0, 0)) := by
    rw [hgrow.block b (by simp; omega) (fun e => hne e.symm), Lib.alloc_old w1 _ b hlt]
    exact hbk
  have d0 : w2.cell? ⟨b, 0, none⟩ = some (.pointer (some ⟨b, 0, none⟩)) := by rw [Lib.cell_of_heap hb2]; rfl
  have d1 : w2.cell? ⟨b, 1, none⟩ = some v := by rw [Lib.cell_of_heap hb2]; rfl
  have f1 : w2.frozen? ⟨b, 1, none⟩ = false := Lib.frozen_of_heap hb2 1
  obtain ⟨g, cap, rfl⟩ : ∃ g cap, v' = .slice (some ⟨g, 0, none⟩) (bs.length + 1) cap := by
    rcases hown'.2 with ⟨_, h0⟩ | ⟨g, cap, cur, hv, _⟩
    · omega
    · exact ⟨g, cap, hv⟩
  go_wp2
  go_ret
  refine ⟨rfl, .inr ?_, ?_⟩
  · exact Lib.BuilderAt.put (T := 109) (e := 5) hB hb2 (bs' := bs ++ [.int .u8 c]) (by simpa using hown') bX.neB5
  · exact ((hb1.alloc (by have := hb1.size; omega) _).grown hgrow (by have := hb1.size; simp; omega) (fun k hk => (hown.lt k hk).1)).setCell (p := ⟨b, 1, none⟩) hB _
def bu (s : ByteArray) (i : Nat) : UInt8 := s.data.toList.getD i 0
theorem bt_bu (s : ByteArray) (i : Nat) : bt s (i : Int) = ((bu s i).toNat : Int) := by
  unfold bt bu
  split
  · rename_i h
    have h' : i < s.size := by simpa using h
    have h2 : i < s.data.toList.length := by simpa using h'
    rw [List.getD_eq_getElem?_getD, List.getElem?_eq_getElem h2]
    simp; rfl
  · rename_i h
    have h2 : s.data.toList.length ≤ i := by
      have : ¬ i < s.size := by simpa using h
      simpa using this
    rw [List.getD_eq_getElem?_getD, List.getElem?_eq_none h2]; rfl
def textF (s : ByteArray) : Nat → Nat → List UInt8 → ByteArray × Int
  | 0, _, _ => (⟨#[]⟩, 0)
  | d + 1, i, out => if i < s.size then (if bu s i = 34 then (if i + 1 = s.size ∨ ¬ bu s (i + 1) = 34 then (⟨out.toArray⟩, ((i + 1 : Nat) : Int)) else textF s d (i + 2) (out ++ [34])) else textF s d (i + 1) (out ++ [bu s i])) else (⟨#[]⟩, 0)
def lex_text.f (a0 : ByteArray) : Option (ByteArray × Int) := if a0.size ≤ 140737488351232 then some (textF a0 (a0.size + 1) 1 []) else none
theorem byteCells_add (l : List UInt8) (c : UInt8) : Lib.byteCells (l ++ [c]) = Lib.byteCells l ++ [.int .u8 (c.toNat : Int)] := by simp [Lib.byteCells]
theorem byteCells_len (l : List UInt8) : (Lib.byteCells l).length = l.length := by simp [Lib.byteCells]
theorem fresh_builder (w : World) : Lib.IsBuilder 109 5 w.heap.size w.heap.size (Lib.byteCells []) (w.alloc (.cells #[.pointer none, .slice none 0 0] 109 (0, 0))) :=
  .inl ⟨Nat.le_refl _, _, blk_new w _, ⟨rfl, .inl ⟨rfl, rfl⟩⟩, by simp [Value.ownBlock]⟩
set_option maxHeartbeats 4000000 in
set_option maxRecDepth 100000 in
theorem lex_text.calls (a0 : ByteArray) (r1 : ByteArray) (r2 : Int) (w : World) (h : lex_text.f a0 = some (r1, r2)) :
    Calls Tryd.prog 70 #[.string a0] w fun e w' => e = .returned (.tuple #[.string r1, .int .i64 r2]) ∧ Below w.heap.size w w' := by
  have u109 := Tryd.underlying109
  have u9 := Tryd.underlying9
  unfold lex_text.f at h
  split at h
  case isFalse => cases h
  rename_i hsz
  injection h with h
  have HF := Lib.hid h
  have HB0 := Lib.hid (fresh_builder w)
  have HBl := Lib.hid (below_alloc (Below.refl w.heap.size w) (.cells #[.pointer none, .slice none 0 0] 109 (0, 0)))
  clear h
  go_enter Tryd.func70, Tryd.ntmps70
  go_wp2
  go_loopg [5] (a0.size + 1) (fun gg s5 wr => ∃ (i d : Nat) (out : List UInt8), s5 = .int .i64 i ∧ d ≤ gg ∧ a0.size + 1 ≤ i + d ∧ i ≤ a0.size + 1 ∧ out.length ≤ i ∧ Hid (textF a0 (d + 1) i out = (r1, r2)) ∧ Hid (Lib.IsBuilder 109 5 w.heap.size w.heap.size (Lib.byteCells out) wr) ∧ Hid (Below w.heap.size w wr))
  case atStart => exact ⟨1, a0.size, [], rfl, by omega, by omega, by omega, by simp, HF, HB0, HBl⟩
  case round =>
    obtain ⟨i, d, out, rfl, hd, hid, hi, hout, HT, HR, HB⟩ := hrel
    by_cases hlt : i < a0.size
    · have hltz : (i : Int) < (a0.size : Int) := by omega
      have hi0 : (0 : Int) ≤ (i : Int) := by omega
      have hb : ∀ h : i < a0.size, ((a0[i]'h).toNat : Int) = bt a0 (i : Int) := fun h => bt_at a0 (i : Int) h
      have hbs := HB.out.size
      obtain ⟨d, rfl⟩ : ∃ e, d = e + 1 := ⟨d - 1, by omega⟩
      by_cases hq : bu a0 i = 34
      · have hq0 : (bt a0 (i : Int) == 34) = true := beq_iff_eq.2 (by rw [bt_bu, hq]; rfl)
        have hq1 : (bt a0 (i : Int) != 34) = false := bne_eq_false_iff_eq.2 (by simpa using hq0)
        have hend : (i + 1 = a0.size ∨ ¬ bu a0 (i + 1) = 34) → (⟨out.toArray⟩ : ByteArray) = r1 ∧ ((i : Int) + 1) = r2 := by
          intro hor
          have := HT.out
          rw [textF, if_pos hlt, if_pos hq, if_pos hor] at this
          injection this with e1 e2
          exact ⟨e1, by rw [← e2]; omega⟩
        have hstr := Tryd.Builder_String_any w.heap.size w.heap.size out wr HR.out hbs
        have HS := Lib.hid hstr
        clear hstr
        by_cases hl1 : i + 1 = a0.size
        · obtain ⟨e1, e2⟩ := hend (.inl hl1)
          subst e1 e2
          have hl2 : ((i : Int) + 1 == (a0.size : Int)) = true := beq_iff_eq.2 (by omega)
          clear hend hq
          go_wp2_with (go_at_call 87; refine HS.out.mono ?_; rintro e w2 ⟨rfl, hb2⟩)
          go_ret2
          exact ⟨rfl, HB.out.trans hb2⟩
        · have hl2 : ((i : Int) + 1 == (a0.size : Int)) = false := beq_eq_false_iff_ne.2 (by omega)
          have hl3 : i + 1 < a0.size := by omega
          have hbn : ∀ h : i + 1 < a0.size, ((a0[i + 1]'h).toNat : Int) = bt a0 ((i : Int) + 1) := fun h => bt_at a0 ((i : Int) + 1) (by omega)
          have hbb : bt a0 ((i : Int) + 1) = ((bu a0 (i + 1)).toNat : Int) := bt_bu a0 (i + 1)
          by_cases hq2 : bu a0 (i + 1) = 34
          · have hz0 : (bt a0 ((i : Int) + 1) != 34) = false := bne_eq_false_iff_eq.2 (by rw [hbb, hq2]; rfl)
            have hT : textF a0 (d + 1) (i + 2) (out ++ [34]) = (r1, r2) := by
              have := HT.out
              rw [textF, if_pos hlt, if_pos hq, if_neg (by rintro (h | h); exact hl1 h; exact h hq2)] at this
              exact this
            have HT2 := Lib.hid hT
            have hcw := write_byte w.heap.size w.heap.size (Lib.byteCells out) 34 wr HR.out (by rw [byteCells_len]; omega) hbs
            rw [show Value.int .u8 34 = Value.int .u8 (((34 : UInt8).toNat : Nat) : Int) from rfl, ← byteCells_add] at hcw
            have HW := Lib.hid hcw
            clear hT hcw hq hend hq2 hbb HS
            go_wp2_with (go_at_call 86; refine HW.out.mono ?_; rintro e w2 ⟨rfl, hw2, hb2⟩; have HR2 := Lib.hid hw2; have HB2 := Lib.hid (HB.out.trans hb2); clear hw2 hb2)
            go_roundg d
            case measure => omega
            case rel => exact ⟨i + 2, d, out ++ [34], by go_num, by omega, by omega, by omega, by simp; omega, HT2, HR2, HB2⟩
          · obtain ⟨e1, e2⟩ := hend (.inr hq2)
            subst e1 e2
            have hz0 : (bt a0 ((i : Int) + 1) != 34) = true := bne_iff_ne.2 (by rw [hbb]; intro e; exact hq2 (UInt8.toNat_inj.1 (show (bu a0 (i + 1)).toNat = 34 by omega)))
            clear hend hq hq2 hbb
            go_wp2_with (go_at_call 87; refine HS.out.mono ?_; rintro e w2 ⟨rfl, hb2⟩)
            go_ret2
            exact ⟨rfl, HB.out.trans hb2⟩
      · have hq0 : (bt a0 (i : Int) == 34) = false := beq_eq_false_iff_ne.2 (by rw [bt_bu]; intro e; exact hq (UInt8.toNat_inj.1 (show (bu a0 i).toNat = 34 by omega)))
        have hq1 : (bt a0 (i : Int) != 34) = true := bne_iff_ne.2 (by simpa using hq0)
        have hT : textF a0 (d + 1) (i + 1) (out ++ [bu a0 i]) = (r1, r2) := by
          have := HT.out
          rw [textF, if_pos hlt, if_neg hq] at this
          exact this
        have HT2 := Lib.hid hT
        have hcw := write_byte w.heap.size w.heap.size (Lib.byteCells out) (bt a0 (i : Int)) wr HR.out (by rw [byteCells_len]; omega) hbs
        rw [bt_bu, ← byteCells_add, ← bt_bu] at hcw
        have HW := Lib.hid hcw
        clear hT hcw hq
        go_wp2_with (go_at_call 86; refine HW.out.mono ?_; rintro e w2 ⟨rfl, hw2, hb2⟩; have HR2 := Lib.hid hw2; have HB2 := Lib.hid (HB.out.trans hb2); clear hw2 hb2)
        go_roundg d
        case measure => omega
        case rel => exact ⟨i + 1, d, out ++ [bu a0 i], by go_num, by omega, by omega, by omega, by simp; omega, HT2, HR2, HB2⟩
    · have hltz : ¬ (i : Int) < (a0.size : Int) := by omega
      have hR := HT.out
      rw [textF, if_neg hlt] at hR
      injection hR with e1 e2
      subst e1 e2
      go_wp2
      go_ret2
      exact ⟨rfl, HB.out⟩
end Go.Proofs.YtmdmpafdpgdpoaaDoor.P

namespace Go.Proofs.YtmdmpafdpgdpoaaDoor.P
open Go.RowKit Go.Proofs.YtmdmpafdpgdpoaaDoorW.PrintWords Go.Proofs.YtmdmpafdpgdpoaaDoorW.PrintLast Go.Proofs.YtmdmpafdpgdpoaaDoorW.PrintMore
set_option linter.unusedVariables false
set_option linter.unusedSimpArgs false
def upC (c : UInt8) : UInt8 := if 97 ≤ c.toNat ∧ c.toNat ≤ 122 then c - 32 else c
def upL (l : List UInt8) : List UInt8 := l.map upC
def upS (s : ByteArray) : ByteArray := ⟨(upL s.data.toList).toArray⟩
theorem upC_no {c : UInt8} (h : ¬ (97 ≤ c.toNat ∧ c.toNat ≤ 122)) : upC c = c := if_neg h
theorem upC_yes {c : UInt8} (h : 97 ≤ c.toNat ∧ c.toNat ≤ 122) : (upC c).toNat = c.toNat - 32 := by
  unfold upC; rw [if_pos h, UInt8.toNat_sub_of_le]; rfl
  rw [UInt8.le_iff_toNat_le]; show 32 ≤ c.toNat; omega
def RowB (w : World) (e : TypeId) (g N : Nat) (l : List UInt8) : Prop :=
  ∃ cs : Array Value, w.heap[g]? = some (.cells cs e (N, N + 1)) ∧ cs.size = N ∧ l.length ≤ N ∧ ∀ (j : Nat) (x : UInt8), l[j]? = some x → cs[j]? = some (.int .u8 (x.toNat : Int))
theorem RowB.start (w : World) (e : TypeId) (s : ByteArray) : RowB (Lib.bytesWorld w e s) e w.heap.size (Lib.bytesCells w e s).size s.data.toList := by
  refine ⟨_, Lib.bytesWorld_at_new w e s, rfl, by simp [Lib.bytesCells], fun j x hx => ?_⟩
  have hj : j < s.data.size := by
    rcases Nat.lt_or_ge j s.data.size with h | h
    · exact h
    · rw [List.getElem?_eq_none (by simpa using h)] at hx; cases hx
  have hx' : s.data[j] = x := by
    rw [List.getElem?_eq_getElem (by simpa using hj)] at hx
    injection hx
  have hj' : j < s.size := hj
  simp [Lib.bytesCells, Array.getElem?_append, hj, hj', hx']
theorem RowB.cell {w : World} {e : TypeId} {g N : Nat} {l : List UInt8} (h : RowB w e g N l) {j : Nat} {x : UInt8} (hx : l[j]? = some x) : w.cell? ⟨g, j, none⟩ = some (.int .u8 (x.toNat : Int)) := by
  obtain ⟨cs, h1, h2, h3, h4⟩ := h
  simp [World.cell?, h1, h4 j x hx]
theorem RowB.frozen {w : World} {e : TypeId} {g N : Nat} {l : List UInt8} (h : RowB w e g N l) {j : Nat} (hj : j < l.length) : w.frozen? ⟨g, j, none⟩ = false := by
  obtain ⟨cs, h1, h2, h3, h4⟩ := h
  simp [World.frozen?, h1]; omega
theorem RowB.put {w : World} {e : TypeId} {g N : Nat} {l : List UInt8} (h : RowB w e g N l) (j : Nat) (y : UInt8) : RowB (w.setCell ⟨g, j, none⟩ (.int .u8 (y.toNat : Int))) e g N (l.set j y) := by
  obtain ⟨cs, h1, h2, h3, h4⟩ := h
  refine ⟨cs.setIfInBounds j (.int .u8 (y.toNat : Int)), ?_, by simpa using h2, by simpa using h3, fun i x hx => ?_⟩
  · have hg : g < w.heap.size := (Array.getElem?_eq_some_iff.1 h1).1
    have := (Array.getElem?_eq_some_iff.1 h1).2
    simp [World.setCell, Array.getElem?_modify, hg, this, Array.getElem_modify_self]
  · rw [List.getElem?_set] at hx
    rw [Array.getElem?_setIfInBounds]
    split at hx
    · rename_i hji; subst hji
      split at hx
      · injection hx with hx; subst hx
        rw [if_pos rfl, if_pos (by omega)]
      · cases hx
    · rename_i hji
      rw [if_neg hji]; exact h4 i x hx
theorem RowB.string {w : World} {e : TypeId} {g N : Nat} {l : List UInt8} (h : RowB w e g N l) (P : Program) (src dst : TypeId) (cap : Nat) (hs : P.underlying src = some (.slice e)) (he : P.underlying e = some (.int .u8)) (hd : P.underlying dst = some .string) :
    (convert src dst (.slice (some ⟨g, 0, none⟩) l.length cap)).run P w = .ok (.string ⟨l.toArray⟩) w := by
  have h1 := run_convert_bytes_arg (P := P) w src e hs he g 0 l.length cap (l.map fun x => (x.toNat : Int)) (by simp) (fun i hi => by
    rw [Nat.zero_add, h.cell (List.getElem?_eq_getElem hi)]
    simp [List.getD, List.getElem?_eq_getElem hi]) dst hd
  rw [h1]
  have : strOfNums (l.map fun x => (x.toNat : Int)) = ⟨l.toArray⟩ := by
    unfold strOfNums
    congr 1
    simp [Function.comp_def]
  rw [this]
theorem up_mid {l : List UInt8} {i : Nat} (hi : i < l.length) : (upL (l.take i) ++ l.drop i)[i]? = some l[i] := by
  unfold upL
  rw [List.getElem?_append_right (by simp; omega)]
  simp [Nat.min_eq_left (Nat.le_of_lt hi)]
theorem up_len (l : List UInt8) {i : Nat} (hi : i ≤ l.length) : (upL (l.take i) ++ l.drop i).length = l.length := by unfold upL; simp; omega
theorem up_next {l : List UInt8} {i : Nat} (hi : i < l.length) : (upL (l.take i) ++ l.drop i).set i (upC l[i]) = upL (l.take (i + 1)) ++ l.drop (i + 1) := by
  unfold upL
  rw [List.set_append_right _ _ (by simp; omega), List.take_succ_eq_append_getElem hi, List.map_append, List.append_assoc]
  congr 1
  rw [List.length_map, List.length_take, Nat.min_eq_left (by omega), Nat.sub_self, List.drop_eq_getElem_cons hi]
  rfl
theorem up_same {l : List UInt8} {i : Nat} (hi : i < l.length) (h : upC l[i] = l[i]) : upL (l.take i) ++ l.drop i = upL (l.take (i + 1)) ++ l.drop (i + 1) := by
  rw [← up_next hi, h]
  conv => rhs; rw [show l[i] = (upL (l.take i) ++ l.drop i)[i]'(by rw [up_len l (by omega)]; exact hi) from by
    have := up_mid hi
    rw [List.getElem?_eq_getElem (by rw [up_len l (by omega)]; exact hi)] at this
    injection this with this; exact this.symm]
  rw [List.set_getElem_self]
def lex_Upper.f (a0 : ByteArray) : Option ByteArray := if a0.size ≤ 140737488351232 then some (upS a0) else none
set_option maxHeartbeats 4000000 in
set_option maxRecDepth 100000 in
theorem lex_Upper.calls (a0 : ByteArray) (r : ByteArray) (w : World) (h : lex_Upper.f a0 = some r) :
    Calls Tryd.prog 23 #[.string a0] w fun e w' => e = .returned (.string r) ∧ Below w.heap.size w w' := by
  have hu9 := Tryd.underlying9
  have hu73 := Tryd.underlying73
  have hu5 := Tryd.underlying5
  unfold lex_Upper.f at h
  split at h
  case isFalse => cases h
  rename_i hsz
  injection h with h
  subst h
  have hl : a0.data.toList.length = a0.size := Array.length_toList
  have hcv := fun w => Lib.run_convert_string_bytes (P := Tryd.prog) w 9 73 5 a0 hu9 hu73 hu5
  go_enter Tryd.func23, Tryd.ntmps23
  have HR0 := Lib.hid (RowB.start w 5 a0)
  have HB0 := Lib.hid (bytes_below (Below.refl w.heap.size w) (Nat.le_refl _) 5 a0)
  have hgl := hl
  go_wp2
  go_loopg [10] a0.size (fun gg s10 wr => ∃ i : Nat, s10 = .int .i64 i ∧ i ≤ a0.size ∧ a0.size - i ≤ gg ∧ Hid (RowB wr 5 w.heap.size (Lib.bytesCells w 5 a0).size (upL (a0.data.toList.take i) ++ a0.data.toList.drop i)) ∧ Hid (Below w.heap.size w wr))
  case atStart => exact ⟨0, rfl, by omega, by omega, HR0, HB0⟩
  case round =>
    obtain ⟨i, rfl, hi, hgg, HR, HB⟩ := hrel
    by_cases hlt : i < a0.size
    · have hlt' : i < a0.data.toList.length := by omega
      have hltz : (i : Int) < (a0.size : Int) := by omega
      have hi0 : (0 : Int) ≤ (i : Int) := by omega
      have hc0 := HR.out.cell (up_mid hlt')
      have hz0 := HR.out.frozen (j := i) (by rw [up_len _ (by omega)]; exact hlt')
      by_cases hu : 97 ≤ (a0.data.toList[i]).toNat ∧ (a0.data.toList[i]).toNat ≤ 122
      · have hp := HR.out.put i (upC a0.data.toList[i])
        rw [up_next hlt', upC_yes hu] at hp
        generalize hx : (a0.data.toList[i]).toNat = x at hc0 hu hp
        have hg1 : (x : Int) ≥ 97 := by omega
        have hg2 : (x : Int) ≤ 122 := by omega
        rw [show ((x - 32 : Nat) : Int) = (x : Int) - 97 + 65 by omega] at hp
        have HP := Lib.hid hp
        clear hp hx
        go_wp2
        go_roundg (a0.size - (i + 1))
        case measure => omega
        case rel => exact ⟨i + 1, by go_num, by omega, by omega, HP, Lib.hid (below_set HB.out (Nat.le_refl _))⟩
      · have hs := up_same hlt' (upC_no hu)
        have HP := HR
        rw [hs] at HP
        generalize hx : (a0.data.toList[i]).toNat = x at hc0 hu
        clear hx hs
        by_cases h97 : 97 ≤ x
        · have hg1 : (x : Int) ≥ 97 := by omega
          have hg2 : ¬ (x : Int) ≤ 122 := by omega
          go_wp2
          go_roundg (a0.size - (i + 1))
          case measure => omega
          case rel => exact ⟨i + 1, by go_num, by omega, by omega, HP, HB⟩
        · have hg1 : ¬ (x : Int) ≥ 97 := by omega
          go_wp2
          go_roundg (a0.size - (i + 1))
          case measure => omega
          case rel => exact ⟨i + 1, by go_num, by omega, by omega, HP, HB⟩
    · have hi' : i = a0.size := by omega
      subst hi'
      have hltz : ¬ ((a0.size : Nat) : Int) < (a0.size : Int) := by omega
      have hs := HR.out.string Tryd.prog 73 9 (grownCap w a0.size 0 5) hu73 hu5 hu9
      rw [up_len _ (by omega), hl, List.take_of_length_le (by omega), List.drop_of_length_le (by omega), List.append_nil] at hs
      go_wp2
      go_ret
      exact ⟨rfl, HB.out⟩
end Go.Proofs.YtmdmpafdpgdpoaaDoor.P

namespace Go.Proofs.YtmdmpafdpgdpoaaDoor.M
open Go.RowKit
set_option linter.unusedVariables false
set_option linter.unusedSimpArgs false
abbrev I64 (n : Int) : Prop := -9223372036854775808 ≤ n ∧ n ≤ 9223372036854775807
theorem wrap64_id {n : Int} (h : I64 n) : wrap64 n = n := by unfold wrap64; unfold I64 at h; omega
end Go.Proofs.YtmdmpafdpgdpoaaDoor.M


namespace Go.Proofs.YtmdmpafdpgdpoaaDoor.P
open Go.RowKit Go.Proofs.YtmdmpafdpgdpoaaDoorW.PrintWords Go.Proofs.YtmdmpafdpgdpoaaDoorW.PrintLast Go.Proofs.YtmdmpafdpgdpoaaDoorW.PrintMore
set_option linter.unusedVariables false
set_option linter.unusedSimpArgs false
theorem bytesWorld_two {w w' : World} {e : TypeId} {s : ByteArray} (h : w' = w ∨ ∃ t, w' = Lib.bytesWorld w e t) : Below w.heap.size w w' := by
  rcases h with rfl | ⟨t, rfl⟩
  · exact Below.refl _ _
  · exact bytes_below (Below.refl _ _) (Nat.le_refl _) _ _
end Go.Proofs.YtmdmpafdpgdpoaaDoor.P

namespace Go.Proofs.YtmdmpafdpgdpoaaDoor.P
open Go.RowKit Go.Proofs.YtmdmpafdpgdpoaaDoorW.PrintWords Go.Proofs.YtmdmpafdpgdpoaaDoorW.PrintLast Go.Proofs.YtmdmpafdpgdpoaaDoorW.PrintMore
attribute [local go_sem] max2_int min2_int max_two min_two max_three min_three max_four min_four   -- for this text's walks alone
set_option linter.unusedVariables false
set_option linter.unusedSimpArgs false
def lex_signs.f (a0 : ByteArray) : Option (Int) := if (a0.size : Int) > 1 then (if 0 ≤ 2 then (if 2 ≤ (a0.size : Int) then (if (a0.extract 0 2).toList = ([60, 62] : List UInt8) then (some 2) else (if (a0.extract 0 2).toList = ([60, 61] : List UInt8) then (some 2) else (if (a0.extract 0 2).toList = ([62, 61] : List UInt8) then (some 2) else (some 1)))) else (none)) else (none)) else (some 1)
set_option maxHeartbeats 8000000 in
set_option maxRecDepth 100000 in
theorem lex_signs.calls (a0 : ByteArray) (r : Int) (w : World) (h : lex_signs.f a0 = some r) :
    Calls Tryd.prog 72 #[.string a0] w fun e w' => e = .returned (.int .i64 r) ∧ Drawn0 w w' := by
  have H : (if (a0.size : Int) > 1 then (if 0 ≤ 2 then (if 2 ≤ (a0.size : Int) then (if (a0.extract 0 2).toList = ([60, 62] : List UInt8) then (some 2) else (if (a0.extract 0 2).toList = ([60, 61] : List UInt8) then (some 2) else (if (a0.extract 0 2).toList = ([62, 61] : List UInt8) then (some 2) else (some 1)))) else (none)) else (none)) else (some 1)) = some r := h
  clear h
  by_cases c2 : (a0.size : Int) > 1
  · rw [if_pos c2] at H
    have c2b0 : decide (1 < (a0.size : Int)) = true := decide_eq_true c2
    have c2b1 : decide (1 < a0.size) = true := decide_eq_true (by omega)
    clear c2
    by_cases c3 : 0 ≤ 2
    · rw [if_pos c3] at H
      have c3b0 := eq_true c3
      have c3b1 : decide (0 ≤ 2) = true := decide_eq_true c3
      clear c3
      by_cases c4 : 2 ≤ (a0.size : Int)
      · rw [if_pos c4] at H
        have c4b0 := eq_true c4
        have c4b1 : decide (2 ≤ (a0.size : Int)) = true := decide_eq_true c4
        clear c4
        by_cases c5 : (a0.extract 0 2).toList = ([60, 62] : List UInt8)
        · rw [if_pos c5] at H
          have c5b0 : ((a0.extract 0 2).toList == ([60, 62] : List UInt8)) = true := beq_iff_eq.mpr c5
          have c5b1 : ((a0.extract 0 2).toList != ([60, 62] : List UInt8)) = false := bne_eq_false_iff_eq.mpr c5
          clear c5
          obtain rfl := Option.some.inj H
          go_enter Tryd.func72, Tryd.ntmps72
          go_wp2
          go_ret
          exact ⟨by first | rfl | (simp; done) | (simp [*]; done), by repeat (first | exact Drawn0.refl _ | apply Drawn0.step)⟩
        · rw [if_neg c5] at H
          have c5b0 : ((a0.extract 0 2).toList == ([60, 62] : List UInt8)) = false := beq_eq_false_iff_ne.mpr c5
          have c5b1 : ((a0.extract 0 2).toList != ([60, 62] : List UInt8)) = true := bne_iff_ne.mpr c5
          by_cases c6 : (a0.extract 0 2).toList = ([60, 61] : List UInt8)
          · rw [if_pos c6] at H
            have c6b0 : ((a0.extract 0 2).toList == ([60, 61] : List UInt8)) = true := beq_iff_eq.mpr c6
            have c6b1 : ((a0.extract 0 2).toList != ([60, 61] : List UInt8)) = false := bne_eq_false_iff_eq.mpr c6
            clear c6
            obtain rfl := Option.some.inj H
            go_enter Tryd.func72, Tryd.ntmps72
            go_wp2
            go_ret
            exact ⟨by first | rfl | (simp; done) | (simp [*]; done), by repeat (first | exact Drawn0.refl _ | apply Drawn0.step)⟩
          · rw [if_neg c6] at H
            have c6b0 : ((a0.extract 0 2).toList == ([60, 61] : List UInt8)) = false := beq_eq_false_iff_ne.mpr c6
            have c6b1 : ((a0.extract 0 2).toList != ([60, 61] : List UInt8)) = true := bne_iff_ne.mpr c6
            by_cases c7 : (a0.extract 0 2).toList = ([62, 61] : List UInt8)
            · rw [if_pos c7] at H
              have c7b0 : ((a0.extract 0 2).toList == ([62, 61] : List UInt8)) = true := beq_iff_eq.mpr c7
              have c7b1 : ((a0.extract 0 2).toList != ([62, 61] : List UInt8)) = false := bne_eq_false_iff_eq.mpr c7
              clear c7
              obtain rfl := Option.some.inj H
              go_enter Tryd.func72, Tryd.ntmps72
              go_wp2
              go_ret
              exact ⟨by first | rfl | (simp; done) | (simp [*]; done), by repeat (first | exact Drawn0.refl _ | apply Drawn0.step)⟩
            · rw [if_neg c7] at H
              have c7b0 : ((a0.extract 0 2).toList == ([62, 61] : List UInt8)) = false := beq_eq_false_iff_ne.mpr c7
              have c7b1 : ((a0.extract 0 2).toList != ([62, 61] : List UInt8)) = true := bne_iff_ne.mpr c7
              obtain rfl := Option.some.inj H
              go_enter Tryd.func72, Tryd.ntmps72
              go_wp2
              go_ret
              exact ⟨by first | rfl | (simp; done) | (simp [*]; done), by repeat (first | exact Drawn0.refl _ | apply Drawn0.step)⟩
      · rw [if_neg c4] at H
        exact absurd H (by simp)
    · rw [if_neg c3] at H
      exact absurd H (by simp)
  · rw [if_neg c2] at H
    have c2b0 : decide (1 < (a0.size : Int)) = false := decide_eq_false c2
    have c2b1 : decide (1 < a0.size) = false := decide_eq_false (by omega)
    clear c2
    obtain rfl := Option.some.inj H
    go_enter Tryd.func72, Tryd.ntmps72
    go_wp2
    go_ret
    exact ⟨by first | rfl | (simp; done) | (simp [*]; done), by repeat (first | exact Drawn0.refl _ | apply Drawn0.step)⟩
end Go.Proofs.YtmdmpafdpgdpoaaDoor.P

namespace Go.Proofs.YtmdmpafdpgdpoaaDoor.P
open Go.RowKit Go.Proofs.YtmdmpafdpgdpoaaDoorW.PrintWords Go.Proofs.YtmdmpafdpgdpoaaDoorW.PrintLast Go.Proofs.YtmdmpafdpgdpoaaDoorW.PrintMore
set_option linter.unusedVariables false
set_option linter.unusedSimpArgs false
def kindOf (c : Int) : Int := (lex_kind.f 20 c).getD 0
theorem kind_nat : ∀ c : Fin 256, lex_kind.f 20 (c.val : Int) = some (kindOf (c.val : Int)) := by decide +kernel
theorem kind_byte (c : UInt8) : lex_kind.f 20 (c.toNat : Int) = some (kindOf (c.toNat : Int)) := kind_nat ⟨c.toNat, c.toNat_lt⟩
theorem kind_bt (s : ByteArray) (i : Nat) : lex_kind.f 20 (bt s (i : Int)) = some (kindOf (bt s (i : Int))) := by rw [bt_bu]; exact kind_byte _
def PredK (g : Nat) (p : Int → Bool) : Prop :=
  ∀ (W : World) (x : Int), Calls Tryd.prog g #[.int .i64 x] W fun e w' => e = .returned (.bool (p x)) ∧ Below W.heap.size W w'
theorem pred_digit : PredK 68 (fun x => x == 2) := by
  intro W x
  go_enter Tryd.func68, Tryd.ntmps68
  go_wp2
  go_ret
  exact ⟨rfl, Below.refl _ _⟩
theorem pred_word : PredK 71 (fun x => x == 3 || x == 2) := by
  intro W x
  by_cases h3 : x = 3
  · subst h3
    go_enter Tryd.func71, Tryd.ntmps71
    go_wp2
    go_ret
    exact ⟨rfl, Below.refl _ _⟩
  · have h3b : (x == 3) = false := beq_eq_false_iff_ne.2 h3
    simp only [h3b, Bool.false_or]
    go_enter Tryd.func71, Tryd.ntmps71
    go_wp2
    go_ret
    exact ⟨rfl, Below.refl _ _⟩
theorem eg_digit : ∀ args w, (callFunc 68 args).run Tryd.prog w = .ok (.enter 68 args) w := enters_of Tryd.func68 (by kernel_rfl) rfl
theorem eg_word : ∀ args w, (callFunc 71 args).run Tryd.prog w = .ok (.enter 71 args) w := enters_of Tryd.func71 (by kernel_rfl) rfl
def runN (p : Int → Bool) (s : ByteArray) : Nat → Nat → Nat
  | 0, i => i
  | d + 1, i => if i < s.size then (if p (kindOf (bt s (i : Int))) = true then runN p s d (i + 1) else i) else i
theorem runN_le (p : Int → Bool) (s : ByteArray) : ∀ d i, i ≤ s.size → runN p s d i ≤ s.size ∧ i ≤ runN p s d i
  | 0, i, h => ⟨h, Nat.le_refl _⟩
  | d + 1, i, h => by
    unfold runN
    split
    · split
      · have := runN_le p s d (i + 1) (by omega)
        exact ⟨this.1, by omega⟩
      · exact ⟨h, Nat.le_refl _⟩
    · exact ⟨h, Nat.le_refl _⟩
set_option maxHeartbeats 2000000 in
set_option maxRecDepth 100000 in
theorem run_any (g : Nat) (p : Int → Bool) (eg : ∀ args w, (callFunc g args).run Tryd.prog w = .ok (.enter g args) w) (hp : PredK g p) (s : ByteArray) (hs : s.size ≤ 140737488351232) (w : World) :
    Calls Tryd.prog 67 #[.string s, .func (.func g) #[] #[]] w fun e w' => e = .returned (.int .i64 ((runN p s s.size 0 : Nat) : Int)) ∧ Below w.heap.size w w' := by
  have HP := Lib.hid hp
  clear hp
  have HB0 := Lib.hid (Below.refl w.heap.size w)
  generalize hn : runN p s s.size 0 = n
  have HN := Lib.hid hn
  clear hn
  go_enter Tryd.func67, Tryd.ntmps67
  go_wp2
  go_loopg [5] s.size (fun gg s5 wr => ∃ i d : Nat, s5 = .int .i64 i ∧ d ≤ gg ∧ i + d = s.size ∧ Hid (runN p s d i = n) ∧ Hid (Below w.heap.size w wr))
  case atStart => exact ⟨0, s.size, rfl, by omega, by omega, HN, HB0⟩
  case round =>
    obtain ⟨i, d, rfl, hd, hid, HT, HB⟩ := hrel
    by_cases hlt : i < s.size
    · have hltz : (i : Int) < (s.size : Int) := by omega
      have hi0 : (0 : Int) ≤ (i : Int) := by omega
      have hb : ∀ h : i < s.size, ((s[i]'h).toNat : Int) = bt s (i : Int) := fun h => bt_at s (i : Int) h
      obtain ⟨d, rfl⟩ : ∃ e, d = e + 1 := ⟨d - 1, by omega⟩
      have HK := Lib.hid (kind_bt s i)
      cases hq : p (kindOf (bt s (i : Int))) with
      | true =>
        have hT := HT.out
        rw [runN, if_pos hlt, if_pos hq] at hT
        have HT2 := Lib.hid hT
        have hcp : ∀ W : World, Calls Tryd.prog g #[.int .i64 (kindOf (bt s (i : Int)))] W fun e w' => e = .returned (.bool true) ∧ Below W.heap.size W w' := fun W => by have := HP.out W (kindOf (bt s (i : Int))); rw [hq] at this; exact this
        have HC := Lib.hid hcp
        clear hT hcp hq
        go_wp2_with (first | (go_at_call 48; refine (lex_kind.calls 20 _ _ _ HK.out).mono ?_; rintro e w2 ⟨rfl, hb2⟩) | (go_at_fn g; refine (HC.out _).mono ?_; rintro e w3 ⟨rfl, hb3⟩))
        go_roundg d
        case measure => omega
        case rel => exact ⟨i + 1, d, by go_num, by omega, by omega, HT2, Lib.hid ((below_step HB.out hb2).trans (hb3.mono (below_step HB.out hb2).size))⟩
      | false =>
        have hT := HT.out
        rw [runN, if_pos hlt, if_neg (by rw [hq]; decide)] at hT
        subst hT
        have hcp : ∀ W : World, Calls Tryd.prog g #[.int .i64 (kindOf (bt s (i : Int)))] W fun e w' => e = .returned (.bool false) ∧ Below W.heap.size W w' := fun W => by have := HP.out W (kindOf (bt s (i : Int))); rw [hq] at this; exact this
        have HC := Lib.hid hcp
        clear hcp hq HN
        go_wp2_with (first | (go_at_call 48; refine (lex_kind.calls 20 _ _ _ HK.out).mono ?_; rintro e w2 ⟨rfl, hb2⟩) | (go_at_fn g; refine (HC.out _).mono ?_; rintro e w3 ⟨rfl, hb3⟩))
        go_ret
        exact ⟨rfl, below_step (below_step HB.out hb2) hb3⟩
    · have hltz : ¬ (i : Int) < (s.size : Int) := by omega
      have hT := HT.out
      have hd0 : d = 0 := by omega
      subst hd0
      have hT' : i = n := hT
      subst hT'
      clear HN hT
      go_wp2
      go_ret
      exact ⟨rfl, HB.out⟩
def oneNo (k : Int) : Prop := ¬ k = 2 ∧ ¬ k = 4 ∧ ¬ k = 3 ∧ ¬ k = 5
set_option maxHeartbeats 2000000 in
set_option maxRecDepth 100000 in
theorem one_no (s : ByteArray) (h0 : 0 < s.size) (hs : s.size ≤ 140737488351232) (w : World) (hG : G2 w) (c : Int) (hk : kindOf (bt s 0) = c) (hc : oneNo c) :
    Calls Tryd.prog 49 #[.string s] w fun e w' => e = .returned (.tuple #[.agg #[.int .i64 0, .int .i64 0, .string ⟨#[]⟩, .int .i64 0], .int .i64 0]) ∧ Below w.heap.size w w' := by
  have hu50 := Tryd.underlying50
  have hu9 := Tryd.underlying9
  have hz0 : (0 : Int) < (s.size : Int) := by omega
  have hb : ∀ h : 0 < s.size, ((s[0]'h).toNat : Int) = bt s 0 := fun h => bt_at s 0 h
  have HK := Lib.hid (kind_bt s 0)
  rw [show (((0 : Nat) : Int)) = 0 from rfl, hk] at HK
  have HG := Lib.hid hG
  clear hG hk
  have e2 : (c == 2) = false := beq_eq_false_iff_ne.2 hc.1
  have e4 : (c == 4) = false := beq_eq_false_iff_ne.2 hc.2.1
  have e3 : (c == 3) = false := beq_eq_false_iff_ne.2 hc.2.2.1
  have e5 : (c == 5) = false := beq_eq_false_iff_ne.2 hc.2.2.2
  go_enter Tryd.func49, Tryd.ntmps49
  go_wp2_with (first | (go_at_call 48; (with_reducible refine (lex_kind.calls 20 _ _ _ HK.out).mono ?_); rintro e w1 ⟨rfl, hb1⟩; have K1 := Lib.hid (blk_below (blk_new w (.cells #[.int .i64 0, .int .i64 0, .string ⟨#[]⟩, .int .i64 0] 50 (0, 0))) hb1); have HB1 := Lib.hid (below_step (below_alloc (Below.refl w.heap.size w) _) hb1); clear hb1; have c0 : w1.cell? ⟨w.heap.size, 0, none⟩ = some (.int .i64 0) := (blk_cell K1.out 0).trans rfl; have c1 : w1.cell? ⟨w.heap.size, 1, none⟩ = some (.int .i64 0) := (blk_cell K1.out 1).trans rfl; have c2 : w1.cell? ⟨w.heap.size, 2, none⟩ = some (.string ⟨#[]⟩) := (blk_cell K1.out 2).trans rfl; have c3 : w1.cell? ⟨w.heap.size, 3, none⟩ = some (.int .i64 0) := (blk_cell K1.out 3).trans rfl; have z0 := blk_frozen K1.out 0; have z1 := blk_frozen K1.out 1; have z2 := blk_frozen K1.out 2; have z3 := blk_frozen K1.out 3))
  refine bodyPost_ret (results_ct rfl _ _ w.heap.size 50 _ (0, 0) _ rfl (blk_put (blk_put (blk_put (blk_put K1.out 0 _ rfl) 1 _ rfl) 2 _ rfl) 3 _ rfl) Tryd.underlying50 rfl (by kernel_rfl)) rfl ?_
  exact ⟨rfl, below_set (below_set (below_set (below_set HB1.out (Nat.le_refl _)) (Nat.le_refl _)) (Nat.le_refl _)) (Nat.le_refl _)⟩
set_option maxHeartbeats 2000000 in
set_option maxRecDepth 100000 in
theorem one_text (s : ByteArray) (h0 : 0 < s.size) (hs : s.size ≤ 140737488351232) (w : World) (hG : G2 w) (t : ByteArray) (m : Int) (hk : kindOf (bt s 0) = 4) (ht : lex_text.f s = some (t, m)) :
    Calls Tryd.prog 49 #[.string s] w fun e w' => e = .returned (.tuple #[.agg #[.int .i64 2, .int .i64 0, .string t, .int .i64 0], .int .i64 m]) ∧ Below w.heap.size w w' := by
  have hu50 := Tryd.underlying50
  have hu9 := Tryd.underlying9
  have hz0 : (0 : Int) < (s.size : Int) := by omega
  have hb : ∀ h : 0 < s.size, ((s[0]'h).toNat : Int) = bt s 0 := fun h => bt_at s 0 h
  have HK := Lib.hid (kind_bt s 0)
  rw [show (((0 : Nat) : Int)) = 0 from rfl, hk] at HK
  have HG := Lib.hid hG
  clear hG hk
  have HT := Lib.hid ht
  clear ht
  go_enter Tryd.func49, Tryd.ntmps49
  go_wp2_with (first | (go_at_call 48; (with_reducible refine (lex_kind.calls 20 _ _ _ HK.out).mono ?_); rintro e w1 ⟨rfl, hb1⟩; have K1 := Lib.hid (blk_below (blk_new w (.cells #[.int .i64 0, .int .i64 0, .string ⟨#[]⟩, .int .i64 0] 50 (0, 0))) hb1); have HB1 := Lib.hid (below_step (below_alloc (Below.refl w.heap.size w) _) hb1); clear hb1) | (go_at_call 70; (with_reducible refine (lex_text.calls _ _ _ _ HT.out).mono ?_); rintro e w2 ⟨rfl, hb2⟩; have K2 := Lib.hid (blk_below K1.out hb2); have HB2 := Lib.hid (below_step HB1.out hb2); clear hb2; have c0 : w2.cell? ⟨w.heap.size, 0, none⟩ = some (.int .i64 0) := (blk_cell K2.out 0).trans rfl; have c1 : w2.cell? ⟨w.heap.size, 1, none⟩ = some (.int .i64 0) := (blk_cell K2.out 1).trans rfl; have c2 : w2.cell? ⟨w.heap.size, 2, none⟩ = some (.string ⟨#[]⟩) := (blk_cell K2.out 2).trans rfl; have c3 : w2.cell? ⟨w.heap.size, 3, none⟩ = some (.int .i64 0) := (blk_cell K2.out 3).trans rfl; have z0 := blk_frozen K2.out 0; have z1 := blk_frozen K2.out 1; have z2 := blk_frozen K2.out 2; have z3 := blk_frozen K2.out 3))
  refine bodyPost_ret (results_ct rfl _ _ w.heap.size 50 _ (0, 0) _ rfl (blk_put (blk_put (blk_put (blk_put K2.out 0 _ rfl) 1 _ rfl) 2 _ rfl) 3 _ rfl) Tryd.underlying50 rfl (by kernel_rfl)) rfl ?_
  exact ⟨rfl, below_set (below_set (below_set (below_set HB2.out (Nat.le_refl _)) (Nat.le_refl _)) (Nat.le_refl _)) (Nat.le_refl _)⟩
set_option maxHeartbeats 2000000 in
set_option maxRecDepth 100000 in
theorem one_name (s : ByteArray) (h0 : 0 < s.size) (hs : s.size ≤ 140737488351232) (w : World) (hG : G2 w) (n : Nat) (t : ByteArray) (hk : kindOf (bt s 0) = 3) (hr : runN (fun x => x == 3 || x == 2) s s.size 0 = n) (hn : n ≤ s.size) (ht : lex_Upper.f (s.extract 0 n) = some t) :
    Calls Tryd.prog 49 #[.string s] w fun e w' => e = .returned (.tuple #[.agg #[.int .i64 3, .int .i64 0, .string t, .int .i64 0], .int .i64 (n : Int)]) ∧ Below w.heap.size w w' := by
  have hu50 := Tryd.underlying50
  have hu9 := Tryd.underlying9
  have hz0 : (0 : Int) < (s.size : Int) := by omega
  have hb : ∀ h : 0 < s.size, ((s[0]'h).toNat : Int) = bt s 0 := fun h => bt_at s 0 h
  have HK := Lib.hid (kind_bt s 0)
  rw [show (((0 : Nat) : Int)) = 0 from rfl, hk] at HK
  have HG := Lib.hid hG
  clear hG hk
  have HT := Lib.hid ht
  have hR := fun W => run_any 71 (fun x => x == 3 || x == 2) eg_word pred_word s hs W
  rw [hr] at hR
  have HR := Lib.hid hR
  have hn0 : (0 : Int) ≤ (n : Int) := by omega
  have hn1 : (n : Int) ≤ (s.size : Int) := by omega
  clear ht hR hr
  go_enter Tryd.func49, Tryd.ntmps49
  go_wp2_with (first | (go_at_call 48; (with_reducible refine (lex_kind.calls 20 _ _ _ HK.out).mono ?_); rintro e w1 ⟨rfl, hb1⟩; have K1 := Lib.hid (blk_below (blk_new w (.cells #[.int .i64 0, .int .i64 0, .string ⟨#[]⟩, .int .i64 0] 50 (0, 0))) hb1); have HB1 := Lib.hid (below_step (below_alloc (Below.refl w.heap.size w) _) hb1); clear hb1) | (go_at_call 67; (with_reducible refine (HR.out _).mono ?_); rintro e w2 ⟨rfl, hb2⟩; have K2 := Lib.hid (blk_below K1.out hb2); have HB2 := Lib.hid (below_step HB1.out hb2); clear hb2) | (go_at_call 23; (with_reducible refine (lex_Upper.calls _ _ _ HT.out).mono ?_); rintro e w3 ⟨rfl, hb3⟩; have K3 := Lib.hid (blk_below K2.out hb3); have HB3 := Lib.hid (below_step HB2.out hb3); clear hb3; have c0 : w3.cell? ⟨w.heap.size, 0, none⟩ = some (.int .i64 0) := (blk_cell K3.out 0).trans rfl; have c1 : w3.cell? ⟨w.heap.size, 1, none⟩ = some (.int .i64 0) := (blk_cell K3.out 1).trans rfl; have c2 : w3.cell? ⟨w.heap.size, 2, none⟩ = some (.string ⟨#[]⟩) := (blk_cell K3.out 2).trans rfl; have c3 : w3.cell? ⟨w.heap.size, 3, none⟩ = some (.int .i64 0) := (blk_cell K3.out 3).trans rfl; have z0 := blk_frozen K3.out 0; have z1 := blk_frozen K3.out 1; have z2 := blk_frozen K3.out 2; have z3 := blk_frozen K3.out 3))
  refine bodyPost_ret (results_ct rfl _ _ w.heap.size 50 _ (0, 0) _ rfl (blk_put (blk_put (blk_put (blk_put K3.out 0 _ rfl) 1 _ rfl) 2 _ rfl) 3 _ rfl) Tryd.underlying50 rfl (by kernel_rfl)) rfl ?_
  exact ⟨rfl, below_set (below_set (below_set (below_set HB3.out (Nat.le_refl _)) (Nat.le_refl _)) (Nat.le_refl _)) (Nat.le_refl _)⟩
set_option maxHeartbeats 2000000 in
set_option maxRecDepth 100000 in
theorem one_sign (s : ByteArray) (h0 : 0 < s.size) (hs : s.size ≤ 140737488351232) (w : World) (hG : G2 w) (n : Nat) (hk : kindOf (bt s 0) = 5) (hn : n ≤ s.size) (ht : lex_signs.f s = some (n : Int)) :
    Calls Tryd.prog 49 #[.string s] w fun e w' => e = .returned (.tuple #[.agg #[.int .i64 4, .int .i64 0, .string (s.extract 0 n), .int .i64 0], .int .i64 (n : Int)]) ∧ Below w.heap.size w w' := by
  have hu50 := Tryd.underlying50
  have hu9 := Tryd.underlying9
  have hz0 : (0 : Int) < (s.size : Int) := by omega
  have hb : ∀ h : 0 < s.size, ((s[0]'h).toNat : Int) = bt s 0 := fun h => bt_at s 0 h
  have HK := Lib.hid (kind_bt s 0)
  rw [show (((0 : Nat) : Int)) = 0 from rfl, hk] at HK
  have HG := Lib.hid hG
  clear hG hk
  have HT := Lib.hid ht
  have hn0 : (0 : Int) ≤ (n : Int) := by omega
  have hn1 : (n : Int) ≤ (s.size : Int) := by omega
  clear ht
  go_enter Tryd.func49, Tryd.ntmps49
  go_wp2_with (first | (go_at_call 48; (with_reducible refine (lex_kind.calls 20 _ _ _ HK.out).mono ?_); rintro e w1 ⟨rfl, hb1⟩; have K1 := Lib.hid (blk_below (blk_new w (.cells #[.int .i64 0, .int .i64 0, .string ⟨#[]⟩, .int .i64 0] 50 (0, 0))) hb1); have HB1 := Lib.hid (below_step (below_alloc (Below.refl w.heap.size w) _) hb1); clear hb1) | (go_at_call 72; (with_reducible refine (lex_signs.calls _ _ _ HT.out).mono ?_); rintro e w2 ⟨rfl, hd2⟩; have hb2 := hd2.below; clear hd2; have K2 := Lib.hid (blk_below K1.out hb2); have HB2 := Lib.hid (below_step HB1.out hb2); clear hb2; have c0 : w2.cell? ⟨w.heap.size, 0, none⟩ = some (.int .i64 0) := (blk_cell K2.out 0).trans rfl; have c1 : w2.cell? ⟨w.heap.size, 1, none⟩ = some (.int .i64 0) := (blk_cell K2.out 1).trans rfl; have c2 : w2.cell? ⟨w.heap.size, 2, none⟩ = some (.string ⟨#[]⟩) := (blk_cell K2.out 2).trans rfl; have c3 : w2.cell? ⟨w.heap.size, 3, none⟩ = some (.int .i64 0) := (blk_cell K2.out 3).trans rfl; have z0 := blk_frozen K2.out 0; have z1 := blk_frozen K2.out 1; have z2 := blk_frozen K2.out 2; have z3 := blk_frozen K2.out 3))
  refine bodyPost_ret (results_ct rfl _ _ w.heap.size 50 _ (0, 0) _ rfl (blk_put (blk_put (blk_put (blk_put K2.out 0 _ rfl) 1 _ rfl) 2 _ rfl) 3 _ rfl) Tryd.underlying50 rfl (by kernel_rfl)) rfl ?_
  exact ⟨rfl, below_set (below_set (below_set (below_set HB2.out (Nat.le_refl _)) (Nat.le_refl _)) (Nat.le_refl _)) (Nat.le_refl _)⟩
def pI (s : ByteArray) : Int × Bool := match Lib.parseIntB 64 s.data.toList with
  | .ok v => (v, true)
  | _ => (0, false)
theorem parse_ok (s : ByteArray) (v : Int) (hs : s.size ≤ 140737488351232) (h : pI s = (v, true)) (w : World) :
    Calls Tryd.prog 69 #[.string s, .int .i64 10, .int .i64 64] w fun e w' => e = .returned (.tuple #[.int .i64 v, .nilIface]) ∧ Below w.heap.size w w' := by
  unfold pI at h
  cases hp : Lib.parseIntB 64 s.data.toList <;> rw [hp] at h <;> simp at h
  subst h
  exact (Tryd.strconv_ParseInt_10_at64_ok s (by omega) _ hp w).mono fun e w' ⟨he, hw⟩ => ⟨he, bytesWorld_two (s := s) hw⟩
theorem parse_no (s : ByteArray) (hs : s.size ≤ 140737488351232) (h : (pI s).2 = false) (w : World) (hG : G2 w) :
    Calls Tryd.prog 69 #[.string s, .int .i64 10, .int .i64 64] w fun e w' => ∃ n N, e = .returned (.tuple #[.int .i64 n, .iface 124 (.pointer (some ⟨N, 0, none⟩))]) ∧ Below w.heap.size w w' := by
  obtain ⟨hg1, ⟨t2, p2, h2⟩, t3, p3, h3⟩ := hG
  unfold pI at h
  cases hp : Lib.parseIntB 64 s.data.toList
  · rw [hp] at h; simp at h
  · exact (Any.strconv_ParseInt_10_at64_syntax_var Tryd.laysC174 s (by omega) hp t2 p2 w h2).mono fun e w' ⟨N, h1, _, _, h4⟩ => ⟨_, N, h1, h4⟩
  · exact (Tryd.strconv_ParseInt_10_at64_range_var s (by omega) hp t3 p3 w h3).mono fun e w' ⟨N, h1, _, _, h4⟩ => ⟨_, N, h1, h4⟩
set_option maxHeartbeats 2000000 in
set_option maxRecDepth 100000 in
theorem one_int (s : ByteArray) (h0 : 0 < s.size) (hs : s.size ≤ 140737488351232) (w : World) (hG : G2 w) (n : Nat) (v : Int) (hk : kindOf (bt s 0) = 2) (hr : runN (fun x => x == 2) s s.size 0 = n) (hn : n ≤ s.size) (hp : pI (s.extract 0 n) = (v, true)) :
    Calls Tryd.prog 49 #[.string s] w fun e w' => e = .returned (.tuple #[.agg #[.int .i64 1, .int .i64 v, .string ⟨#[]⟩, .int .i64 0], .int .i64 (n : Int)]) ∧ Below w.heap.size w w' := by
  have hu50 := Tryd.underlying50
  have hu9 := Tryd.underlying9
  have hz0 : (0 : Int) < (s.size : Int) := by omega
  have hb : ∀ h : 0 < s.size, ((s[0]'h).toNat : Int) = bt s 0 := fun h => bt_at s 0 h
  have HK := Lib.hid (kind_bt s 0)
  rw [show (((0 : Nat) : Int)) = 0 from rfl, hk] at HK
  have HG := Lib.hid hG
  clear hG hk
  have hR := fun W => run_any 68 (fun x => x == 2) eg_digit pred_digit s hs W
  rw [hr] at hR
  have HR := Lib.hid hR
  have hn0 : (0 : Int) ≤ (n : Int) := by omega
  have hn1 : (n : Int) ≤ (s.size : Int) := by omega
  have hex : (s.extract 0 n).size ≤ 140737488351232 := by rw [ByteArray.size_extract]; omega
  have HP := Lib.hid hp
  clear hp hR hr
  go_enter Tryd.func49, Tryd.ntmps49
  go_wp2_with (first | (go_at_call 48; (with_reducible refine (lex_kind.calls 20 _ _ _ HK.out).mono ?_); rintro e w1 ⟨rfl, hb1⟩; have K1 := Lib.hid (blk_below (blk_new w (.cells #[.int .i64 0, .int .i64 0, .string ⟨#[]⟩, .int .i64 0] 50 (0, 0))) hb1); have HB1 := Lib.hid (below_step (below_alloc (Below.refl w.heap.size w) _) hb1); clear hb1) | (go_at_call 67; (with_reducible refine (HR.out _).mono ?_); rintro e w2 ⟨rfl, hb2⟩; have K2 := Lib.hid (blk_below K1.out hb2); have HB2 := Lib.hid (below_step HB1.out hb2); clear hb2) | (go_at_call 69; (with_reducible refine (parse_ok _ _ hex HP.out _).mono ?_); rintro e w3 ⟨rfl, hb3⟩; have K3 := Lib.hid (blk_below K2.out hb3); have HB3 := Lib.hid (below_step HB2.out hb3); clear hb3; have c0 : w3.cell? ⟨w.heap.size, 0, none⟩ = some (.int .i64 0) := (blk_cell K3.out 0).trans rfl; have c1 : w3.cell? ⟨w.heap.size, 1, none⟩ = some (.int .i64 0) := (blk_cell K3.out 1).trans rfl; have c2 : w3.cell? ⟨w.heap.size, 2, none⟩ = some (.string ⟨#[]⟩) := (blk_cell K3.out 2).trans rfl; have c3 : w3.cell? ⟨w.heap.size, 3, none⟩ = some (.int .i64 0) := (blk_cell K3.out 3).trans rfl; have z0 := blk_frozen K3.out 0; have z1 := blk_frozen K3.out 1; have z2 := blk_frozen K3.out 2; have z3 := blk_frozen K3.out 3))
  refine bodyPost_ret (results_ct rfl _ _ w.heap.size 50 _ (0, 0) _ rfl (blk_put (blk_put (blk_put (blk_put K3.out 0 _ rfl) 1 _ rfl) 2 _ rfl) 3 _ rfl) Tryd.underlying50 rfl (by kernel_rfl)) rfl ?_
  exact ⟨rfl, below_set (below_set (below_set (below_set HB3.out (Nat.le_refl _)) (Nat.le_refl _)) (Nat.le_refl _)) (Nat.le_refl _)⟩
set_option maxHeartbeats 2000000 in
set_option maxRecDepth 100000 in
theorem one_big (s : ByteArray) (h0 : 0 < s.size) (hs : s.size ≤ 140737488351232) (w : World) (hG : G2 w) (n : Nat) (hk : kindOf (bt s 0) = 2) (hr : runN (fun x => x == 2) s s.size 0 = n) (hn : n ≤ s.size) (hp : (pI (s.extract 0 n)).2 = false) :
    Calls Tryd.prog 49 #[.string s] w fun e w' => e = .returned (.tuple #[.agg #[.int .i64 0, .int .i64 0, .string ⟨#[]⟩, .int .i64 0], .int .i64 0]) ∧ Below w.heap.size w w' := by
  have hu50 := Tryd.underlying50
  have hu9 := Tryd.underlying9
  have hz0 : (0 : Int) < (s.size : Int) := by omega
  have hb : ∀ h : 0 < s.size, ((s[0]'h).toNat : Int) = bt s 0 := fun h => bt_at s 0 h
  have HK := Lib.hid (kind_bt s 0)
  rw [show (((0 : Nat) : Int)) = 0 from rfl, hk] at HK
  have HG := Lib.hid hG
  clear hG hk
  have hR := fun W => run_any 68 (fun x => x == 2) eg_digit pred_digit s hs W
  rw [hr] at hR
  have HR := Lib.hid hR
  have hn0 : (0 : Int) ≤ (n : Int) := by omega
  have hn1 : (n : Int) ≤ (s.size : Int) := by omega
  have hex : (s.extract 0 n).size ≤ 140737488351232 := by rw [ByteArray.size_extract]; omega
  have HP := Lib.hid hp
  clear hp hR hr
  go_enter Tryd.func49, Tryd.ntmps49
  go_wp2_with (first | (go_at_call 48; (with_reducible refine (lex_kind.calls 20 _ _ _ HK.out).mono ?_); rintro e w1 ⟨rfl, hb1⟩; have K1 := Lib.hid (blk_below (blk_new w (.cells #[.int .i64 0, .int .i64 0, .string ⟨#[]⟩, .int .i64 0] 50 (0, 0))) hb1); have HB1 := Lib.hid (below_step (below_alloc (Below.refl w.heap.size w) _) hb1); clear hb1) | (go_at_call 67; (with_reducible refine (HR.out _).mono ?_); rintro e w2 ⟨rfl, hb2⟩; have K2 := Lib.hid (blk_below K1.out hb2); have HB2 := Lib.hid (below_step HB1.out hb2); clear hb2) | (go_at_call 69; (with_reducible refine (parse_no _ hex HP.out _ (gl_2_2 HB2.out HG.out)).mono ?_); rintro e w3 ⟨pn, pN, rfl, hb3⟩; have K3 := Lib.hid (blk_below K2.out hb3); have HB3 := Lib.hid (below_step HB2.out hb3); clear hb3; have c0 : w3.cell? ⟨w.heap.size, 0, none⟩ = some (.int .i64 0) := (blk_cell K3.out 0).trans rfl; have c1 : w3.cell? ⟨w.heap.size, 1, none⟩ = some (.int .i64 0) := (blk_cell K3.out 1).trans rfl; have c2 : w3.cell? ⟨w.heap.size, 2, none⟩ = some (.string ⟨#[]⟩) := (blk_cell K3.out 2).trans rfl; have c3 : w3.cell? ⟨w.heap.size, 3, none⟩ = some (.int .i64 0) := (blk_cell K3.out 3).trans rfl; have z0 := blk_frozen K3.out 0; have z1 := blk_frozen K3.out 1; have z2 := blk_frozen K3.out 2; have z3 := blk_frozen K3.out 3))
  refine bodyPost_ret (results_ct rfl _ _ w.heap.size 50 _ (0, 0) _ rfl (blk_put (blk_put (blk_put (blk_put K3.out 0 _ rfl) 1 _ rfl) 2 _ rfl) 3 _ rfl) Tryd.underlying50 rfl (by kernel_rfl)) rfl ?_
  exact ⟨rfl, below_set (below_set (below_set (below_set HB3.out (Nat.le_refl _)) (Nat.le_refl _)) (Nat.le_refl _)) (Nat.le_refl _)⟩
def signsV (s : ByteArray) : Nat := if s.size > 1 then (if (s.extract 0 2).toList = ([60, 62] : List UInt8) then 2 else if (s.extract 0 2).toList = ([60, 61] : List UInt8) then 2 else if (s.extract 0 2).toList = ([62, 61] : List UInt8) then 2 else 1) else 1
theorem signs_eq (s : ByteArray) : lex_signs.f s = some ((signsV s : Nat) : Int) := by
  unfold lex_signs.f signsV
  by_cases h : s.size > 1
  · rw [if_pos (by omega), if_pos (by omega), if_pos (by omega), if_pos h]
    split
    · rfl
    · split
      · rfl
      · split <;> rfl
  · rw [if_neg (by omega), if_neg h]; rfl
theorem signs_le (s : ByteArray) (h : 0 < s.size) : 1 ≤ signsV s ∧ signsV s ≤ s.size := by
  unfold signsV
  split
  · split
    · omega
    · split
      · omega
      · split <;> omega
  · omega
def digP (x : Int) : Bool := x == 2
def wordP (x : Int) : Bool := x == 3 || x == 2
def digN (s : ByteArray) : Nat := runN digP s s.size 0
def wordN (s : ByteArray) : Nat := runN wordP s s.size 0
def oneV (s : ByteArray) : Int × Int × ByteArray × Int × Int :=
  if kindOf (bt s 0) = 2 then (if (pI (s.extract 0 (digN s))).2 = true then (1, (pI (s.extract 0 (digN s))).1, ⟨#[]⟩, 0, ((digN s : Nat) : Int)) else (0, 0, ⟨#[]⟩, 0, 0)) else
  if kindOf (bt s 0) = 4 then (2, 0, (textF s (s.size + 1) 1 []).1, 0, (textF s (s.size + 1) 1 []).2) else
  if kindOf (bt s 0) = 3 then (3, 0, upS (s.extract 0 (wordN s)), 0, ((wordN s : Nat) : Int)) else
  if kindOf (bt s 0) = 5 then (4, 0, s.extract 0 (signsV s), 0, ((signsV s : Nat) : Int)) else (0, 0, ⟨#[]⟩, 0, 0)
def lex_one.f (s : ByteArray) : Option (Int × Int × ByteArray × Int × Int) := if 0 < s.size ∧ s.size ≤ 140737488351232 then some (oneV s) else none
theorem lex_one.calls (s : ByteArray) (r1 r2 : Int) (r3 : ByteArray) (r4 r5 : Int) (w : World) (hG : G2 w) (h : lex_one.f s = some (r1, r2, r3, r4, r5)) :
    Calls Tryd.prog 49 #[.string s] w fun e w' => e = .returned (.tuple #[.agg #[.int .i64 r1, .int .i64 r2, .string r3, .int .i64 r4], .int .i64 r5]) ∧ Below w.heap.size w w' := by
  unfold lex_one.f at h
  split at h
  case isFalse => cases h
  rename_i hs
  injection h with h
  have hd := (runN_le digP s s.size 0 (by omega)).1
  have hw := (runN_le wordP s s.size 0 (by omega)).1
  have hsg := (signs_le s hs.1).2
  unfold oneV at h
  by_cases h2 : kindOf (bt s 0) = 2
  · rw [if_pos h2] at h
    by_cases hp : (pI (s.extract 0 (digN s))).2 = true
    · rw [if_pos hp] at h
      simp only [Prod.mk.injEq] at h
      obtain ⟨rfl, rfl, rfl, rfl, rfl⟩ := h
      exact one_int s hs.1 hs.2 w hG (digN s) (pI (s.extract 0 (digN s))).1 h2 rfl hd (by rw [← hp])
    · rw [if_neg hp] at h
      simp only [Prod.mk.injEq] at h
      obtain ⟨rfl, rfl, rfl, rfl, rfl⟩ := h
      exact one_big s hs.1 hs.2 w hG (digN s) h2 rfl hd (by simpa using hp)
  rw [if_neg h2] at h
  by_cases h4 : kindOf (bt s 0) = 4
  · rw [if_pos h4] at h
    simp only [Prod.mk.injEq] at h
    obtain ⟨rfl, rfl, rfl, rfl, rfl⟩ := h
    exact one_text s hs.1 hs.2 w hG _ _ h4 (by unfold lex_text.f; rw [if_pos hs.2])
  rw [if_neg h4] at h
  by_cases h3 : kindOf (bt s 0) = 3
  · rw [if_pos h3] at h
    simp only [Prod.mk.injEq] at h
    obtain ⟨rfl, rfl, rfl, rfl, rfl⟩ := h
    exact one_name s hs.1 hs.2 w hG (wordN s) _ h3 rfl hw (by unfold lex_Upper.f; rw [if_pos (by rw [ByteArray.size_extract]; omega)])
  rw [if_neg h3] at h
  by_cases h5 : kindOf (bt s 0) = 5
  · rw [if_pos h5] at h
    simp only [Prod.mk.injEq] at h
    obtain ⟨rfl, rfl, rfl, rfl, rfl⟩ := h
    exact one_sign s hs.1 hs.2 w hG (signsV s) h5 hsg (signs_eq s)
  · rw [if_neg h5] at h
    simp only [Prod.mk.injEq] at h
    obtain ⟨rfl, rfl, rfl, rfl, rfl⟩ := h
    exact one_no s hs.1 hs.2 w hG _ rfl ⟨h2, h4, h3, h5⟩
end Go.Proofs.YtmdmpafdpgdpoaaDoor.P

namespace Go.Proofs.YtmdmpafdpgdpoaaDoor.P
open Go.RowKit Go.Proofs.YtmdmpafdpgdpoaaDoorW.PrintWords Go.Proofs.YtmdmpafdpgdpoaaDoorW.PrintLast Go.Proofs.YtmdmpafdpgdpoaaDoorW.PrintMore
attribute [local go_sem] max2_int min2_int max_two min_two max_three min_three max_four min_four   -- for this text's walks alone
set_option linter.unusedVariables false
set_option linter.unusedSimpArgs false
def lex_Cut.l0 : Nat → ByteArray → List (S50) → Int → Option ((List (S50)) × Int × Int)
  | 0, _, _, _ => none
  | k + 1, x0, x5, x6 => if x6 < (x0.size : Int) then (if 0 ≤ x6 then ((lex_kind.f k (bt x0 x6)).bind fun t103 => (if t103 = 1 then (lex_Cut.l0 k x0 x5 (wrap64 (x6 + 1))) else (if x6 ≤ (x0.size : Int) then ((lex_one.f (x0.extract (x6 : Int).toNat x0.size)).bind fun bt104 => (if bt104.2.2.2.2 = 0 then (some (([] : List (S50)), x6, 12)) else (if x5.length < 3518437208883 then (lex_Cut.l0 k x0 (x5 ++ [(⟨bt104.1, bt104.2.1, bt104.2.2.1, x6⟩ : S50)]) (wrap64 (x6 + bt104.2.2.2.2))) else (none)))) else (none)))) else (none)) else (some (x5, 0, 0))
def lex_Cut.f (k : Nat) (a0 : ByteArray) : Option ((List (S50)) × Int × Int) := if (a0.size : Int) > 300 then (some (([] : List (S50)), 0, 2)) else (lex_Cut.l0 k a0 ([] : List (S50)) 0)
set_option maxHeartbeats 8000000 in
set_option maxRecDepth 100000 in
theorem lex_Cut.calls (k : Nat) (a0 : ByteArray) (r1 : List (S50)) (r2 : Int) (r3 : Int) (w : World) (hG : G2 w) (h : lex_Cut.f k a0 = some (r1, r2, r3)) :
    Calls Tryd.prog 20 #[.string a0] w fun e w' => ∃ v0_ : Value, e = .returned (.tuple #[v0_, .int .i64 r2, .int .i64 r3]) ∧ Kd.R k50 50 w' w.heap.size (fun _ => True) v0_ r1 ∧ Below w.heap.size w w' := by
  have hu50 := Tryd.underlying50
  have HB := Aside0.mk (Below.refl w.heap.size w)
  have H : (if (a0.size : Int) > 300 then (some (([] : List (S50)), 0, 2)) else (lex_Cut.l0 k a0 ([] : List (S50)) 0)) = some (r1, r2, r3) := h
  clear h
  by_cases c2 : (a0.size : Int) > 300
  · rw [if_pos c2] at H
    have c2b0 : decide (300 < (a0.size : Int)) = true := decide_eq_true c2
    have c2b1 : decide (300 < a0.size) = true := decide_eq_true (by omega)
    clear c2
    simp only [Option.some.injEq, Prod.mk.injEq] at H
    obtain ⟨rfl, rfl, rfl⟩ := H
    go_enter Tryd.func20, Tryd.ntmps20
    go_wp2
    go_ret3
    exact ⟨_, by first | rfl | (simp [errW_none, errW_some] <;> rfl) | (simp [*, errW_none, errW_some] <;> rfl), by first | exact Kd.R_nil _ _ _ _ _ | exact Kd.N_nil _ _ _ _ _ | exact Kd.V_nil _ _ _ _ _ | exact Kd.Q_nil _ _ _ _ _ | exact Kd.S_nil _ _ _ _ _, by repeat first | with_reducible exact HB.out | apply zS | exact HB.out⟩
  · rw [if_neg c2] at H
    have c2b0 : decide (300 < (a0.size : Int)) = false := decide_eq_false c2
    have c2b1 : decide (300 < a0.size) = false := decide_eq_false (by omega)
    clear c2
    have H' := Aside0.mk H
    clear H
    go_enter Tryd.func20, Tryd.ntmps20
    go_wp2
    go_loopg [5, 6] k (fun kq v5 v6 w' => ∃ (x5_1 : List (S50)) (x6_1 : Int), v6 = .int .i64 x6_1 ∧ Aside0 (lex_Cut.l0 kq a0 x5_1 x6_1 = some (r1, r2, r3)) ∧ Aside0 (kq ≤ k) ∧ Aside0 (Kd.R k50 50 w' w.heap.size (fun _ => True) v5 x5_1) ∧ Aside0 (Below w.heap.size w w'))
    case atStart => exact ⟨(([] : List (S50))), (0), (by first | rfl | (simp; done) | (simp [*]; done)), H', ⟨Nat.le_refl _⟩, ⟨by first | exact Kd.R_nil _ _ _ _ _ | exact Kd.N_nil _ _ _ _ _ | exact Kd.V_nil _ _ _ _ _ | exact Kd.Q_nil _ _ _ _ _ | exact Kd.S_nil _ _ _ _ _⟩, ⟨by repeat first | with_reducible exact HB.out | apply zS | exact HB.out⟩⟩
    case round =>
      clear H'
      try clear c2
      try clear c2b0
      try clear c2b1
      try clear p2
      obtain ⟨x5_1, x6_1, rfl, HA, HK1, HO_5, HB⟩ := hrel
      cases gk with
      | zero => exact absurd HA.out (by simp [lex_Cut.l0])
      | succ k1 =>
        have H := HA.out
        clear HA
        simp only [lex_Cut.l0] at H
        by_cases c3 : x6_1 < (a0.size : Int)
        · rw [if_pos c3] at H
          have c3b0 : decide (x6_1 < (a0.size : Int)) = true := decide_eq_true c3
          clear c3
          by_cases c4 : 0 ≤ x6_1
          · rw [if_pos c4] at H
            have c4b0 : decide (0 ≤ x6_1) = true := decide_eq_true c4
            clear c4
            replace H := Option.bind_eq_some_iff.mp H
            obtain ⟨t103, A60, H⟩ := H
            replace H : (if t103 = 1 then (lex_Cut.l0 k1 a0 x5_1 (wrap64 (x6_1 + 1))) else (if x6_1 ≤ (a0.size : Int) then ((lex_one.f (a0.extract (x6_1 : Int).toNat a0.size)).bind fun bt104 => (if bt104.2.2.2.2 = 0 then (some (([] : List (S50)), x6_1, 12)) else (if x5_1.length < 3518437208883 then (lex_Cut.l0 k1 a0 (x5_1 ++ [(⟨bt104.1, bt104.2.1, bt104.2.2.1, x6_1⟩ : S50)]) (wrap64 (x6_1 + bt104.2.2.2.2))) else (none)))) else (none))) = some (r1, r2, r3) := H
            have A6 := Aside0.mk A60
            clear A60
            by_cases c7 : t103 = 1
            · rw [if_pos c7] at H
              have c7b0 : (t103 == 1) = true := beq_iff_eq.mpr c7
              have c7b1 : (t103 != 1) = false := bne_eq_false_iff_eq.mpr c7
              clear c7
              have H' := Aside0.mk H
              clear H
              have p5 : 0 ≤ (x6_1 : Int) := of_decide_eq_true (by first | (with_reducible assumption) | assumption)
              have q5 : x6_1 < (a0.size : Int) := of_decide_eq_true (by first | (with_reducible assumption) | assumption)
              have hx5 := bt_at a0 x6_1
              replace p5 := eq_true p5
              replace q5 := eq_true q5
              go_wp2_with (first | ((with_reducible refine gate_callee (f := 48) rfl ?_); refine goesL_ (some 19) rfl rfl Tryd.func48 (by kernel_rfl) rfl #[.int .u8 (bt a0 x6_1)] rfl (by (try simp only [List.map_toArray, List.map_cons, List.map_nil]); first | done | rfl | (simp only [List.length_drop, List.length_take]; rfl)) ?_; (with_reducible refine (lex_kind.calls k1 (bt a0 x6_1) t103 _ A6.out).mono ?_); rintro e w8 ⟨rfl, hb⟩; refine ⟨_, rfl, ?_⟩; have n0_ := Aside0.mk (Kd.R_below (by (with_reducible repeat (first | apply Kd.R_alloc | apply Kd.R_drewN | apply Kd.R_drew)); exact HO_5.out) hb); have n1_ := Aside0.mk (below_step (by repeat first | with_reducible exact HB.out | apply zS | exact HB.out) hb); clear HO_5; clear HB; have HO_5 := n0_; have HB := n1_; clear n0_ n1_; (try clear hb); (try clear hb2); (try clear hk); (try clear hi)))
              go_roundg k1
              case measure => have := HK1.out; omega
              case rel => exact ⟨(x5_1), (wrap64 (x6_1 + 1)), (by first | rfl | (simp; done) | (simp [*]; done)), H', ⟨by have := HK1.out; omega⟩, ⟨by (with_reducible repeat (first | apply Kd.R_alloc | apply Kd.R_drewN | apply Kd.R_drew)); exact HO_5.out⟩, ⟨by repeat first | with_reducible exact HB.out | apply zS | exact HB.out⟩⟩
            · rw [if_neg c7] at H
              have c7b0 : (t103 == 1) = false := beq_eq_false_iff_ne.mpr c7
              have c7b1 : (t103 != 1) = true := bne_iff_ne.mpr c7
              have c9b0 := eq_true (of_decide_eq_true (by first | (with_reducible assumption) | assumption) : 0 ≤ x6_1)
              by_cases c10 : x6_1 ≤ (a0.size : Int)
              · rw [if_pos c10] at H
                have c10b0 := eq_true c10
                have c10b1 : decide (x6_1 ≤ (a0.size : Int)) = true := decide_eq_true c10
                clear c10
                replace H := Option.bind_eq_some_iff.mp H
                obtain ⟨⟨t104, t105, t106, t107, t108⟩, A110, H⟩ := H
                replace H : (if t108 = 0 then (some (([] : List (S50)), x6_1, 12)) else (if x5_1.length < 3518437208883 then (lex_Cut.l0 k1 a0 (x5_1 ++ [(⟨t104, t105, t106, x6_1⟩ : S50)]) (wrap64 (x6_1 + t108))) else (none))) = some (r1, r2, r3) := H
                have A11 := Aside0.mk A110
                clear A110
                by_cases c12 : t108 = 0
                · rw [if_pos c12] at H
                  have c12b0 : (t108 == 0) = true := beq_iff_eq.mpr c12
                  have c12b1 : (t108 != 0) = false := bne_eq_false_iff_eq.mpr c12
                  clear c12
                  simp only [Option.some.injEq, Prod.mk.injEq] at H
                  obtain ⟨rfl, rfl, rfl⟩ := H
                  have p5 : 0 ≤ (x6_1 : Int) := of_decide_eq_true (by first | (with_reducible assumption) | assumption)
                  have q5 : x6_1 < (a0.size : Int) := of_decide_eq_true (by first | (with_reducible assumption) | assumption)
                  have hx5 := bt_at a0 x6_1
                  replace p5 := eq_true p5
                  replace q5 := eq_true q5
                  go_wp2_with (first | ((with_reducible refine gate_callee (f := 48) rfl ?_); refine goesL_ (some 19) rfl rfl Tryd.func48 (by kernel_rfl) rfl #[.int .u8 (bt a0 x6_1)] rfl (by (try simp only [List.map_toArray, List.map_cons, List.map_nil]); first | done | rfl | (simp only [List.length_drop, List.length_take]; rfl)) ?_; (with_reducible refine (lex_kind.calls k1 (bt a0 x6_1) t103 _ A6.out).mono ?_); rintro e w13 ⟨rfl, hb⟩; refine ⟨_, rfl, ?_⟩; have n0_ := Aside0.mk (Kd.R_below (by (with_reducible repeat (first | apply Kd.R_alloc | apply Kd.R_drewN | apply Kd.R_drew)); exact HO_5.out) hb); have n1_ := Aside0.mk (below_step (by repeat first | with_reducible exact HB.out | apply zS | exact HB.out) hb); clear HO_5; clear HB; have HO_5 := n0_; have HB := n1_; clear n0_ n1_; (try clear hb); (try clear hb2); (try clear hk); (try clear hi)) | ((with_reducible refine gate_callee (f := 49) rfl ?_); refine goesL_ (some 27) rfl rfl Tryd.func49 (by kernel_rfl) rfl #[.string (a0.extract (x6_1 : Int).toNat a0.size)] rfl (by (try simp only [List.map_toArray, List.map_cons, List.map_nil]); first | done | rfl | (simp only [List.length_drop, List.length_take]; rfl)) ?_; (with_reducible refine (lex_one.calls (a0.extract (x6_1 : Int).toNat a0.size) t104 t105 t106 t107 t108 _ ?side1 A11.out).mono ?_); (case side1 => exact gl_2_2 (by repeat first | with_reducible exact HB.out | apply zS | exact HB.out) hG); rintro e w14 ⟨rfl, hb⟩; refine ⟨_, rfl, ?_⟩; have n0_ := Aside0.mk (Kd.R_below (by (with_reducible repeat (first | apply Kd.R_alloc | apply Kd.R_drewN | apply Kd.R_drew)); exact HO_5.out) hb); have n1_ := Aside0.mk (below_step (by repeat first | with_reducible exact HB.out | apply zS | exact HB.out) hb); clear HO_5; clear HB; have HO_5 := n0_; have HB := n1_; clear n0_ n1_; (try clear hb); (try clear hb2); (try clear hk); (try clear hi)) | ((with_reducible refine gate_dst (N := 7) rfl ?_); refine box_event ?hg (N := 7) ?hd (cs := #[.int .i64 0, .int .i64 0, .string (⟨#[]⟩ : ByteArray), .int .i64 0]) (t := 50) ?hr ?_; (case hd => rfl); (case hg => rfl); (case hr => first | (go_simp; done) | (go_simp; rfl)); intro gb109 hg w15 hbox hb; have n0_ := Aside0.mk (Kd.R_below (Kd.R_elderB (by (with_reducible repeat (first | apply Kd.R_alloc | apply Kd.R_drewN | apply Kd.R_drew)); exact HO_5.out) gb109 (Nat.le_of_eq hg.symm)) hb); have n1_ := Aside0.mk (below_step (by repeat first | with_reducible exact HB.out | apply zS | exact HB.out) hb); have n2_ := Aside0.mk (hbox); have n3_ := Aside0.mk ((by rw [hg]; exact (below_size (by repeat first | with_reducible exact HB.out | apply zS | exact HB.out)) : w.heap.size ≤ gb109)); have n4_ := n3_; clear HO_5; clear HB; have HO_5 := n0_; have HB := n1_; have BK109 := n2_; have GW109 := n3_; have GE109 := n4_; clear n0_ n1_ n2_ n3_ n4_; clear hb hbox hg; obtain ⟨hcz16_0, hcz16_1, hcz16_2, hcz16_3, hfz16_0, hfz16_1, hfz16_2, hfz16_3⟩ := zC4 BK109.out))
                  go_ret3
                  exact ⟨_, by first | rfl | (simp [errW_none, errW_some] <;> rfl) | (simp [*, errW_none, errW_some] <;> rfl), by first | exact Kd.R_nil _ _ _ _ _ | exact Kd.N_nil _ _ _ _ _ | exact Kd.V_nil _ _ _ _ _ | exact Kd.Q_nil _ _ _ _ _ | exact Kd.S_nil _ _ _ _ _, by repeat first | with_reducible exact HB.out | apply zS | refine below_set ?_ GE109.out | exact HB.out⟩
                · rw [if_neg c12] at H
                  have c12b0 : (t108 == 0) = false := beq_eq_false_iff_ne.mpr c12
                  have c12b1 : (t108 != 0) = true := bne_iff_ne.mpr c12
                  by_cases c17 : x5_1.length < 3518437208883
                  · rw [if_pos c17] at H
                    have LMc17 := Aside0.mk c17
                    clear c17
                    obtain ⟨y110, hy110⟩ : ∃ y_ : List (S50), y_ = (x5_1 ++ [(⟨t104, t105, t106, x6_1⟩ : S50)]) := ⟨_, rfl⟩
                    replace H : (lex_Cut.l0 k1 a0 y110 (wrap64 (x6_1 + t108))) = some (r1, r2, r3) := by first | (rw [hy110]; with_reducible exact H) | (have H2_ := (Option.bind_some _ _).symm.trans H; rw [hy110]; with_reducible exact H2_) | (have H2_ := (Option.bind_some _ _).symm.trans H; with_reducible exact H2_) | with_reducible exact H | (rw [hy110]; exact H) | exact H
                    have Ny110 := Aside0.mk hy110
                    clear hy110
                    have H' := Aside0.mk H
                    clear H
                    have p5 : 0 ≤ (x6_1 : Int) := of_decide_eq_true (by first | (with_reducible assumption) | assumption)
                    have q5 : x6_1 < (a0.size : Int) := of_decide_eq_true (by first | (with_reducible assumption) | assumption)
                    have hx5 := bt_at a0 x6_1
                    replace p5 := eq_true p5
                    replace q5 := eq_true q5
                    have tok36 : True := trivial
                    go_wp2_with (first | ((with_reducible refine gate_dst (N := 36) rfl ?_); have _t := tok36; clear tok36 _t; have hb36 := blk_put (blk_put (blk_put (blk_put (blk_put BK109.out 0 (.int .i64 t104) rfl) 1 (.int .i64 t105) rfl) 2 (.string t106) rfl) 3 (.int .i64 t107) rfl) 3 (.int .i64 x6_1) rfl; obtain ⟨hy0_, hy1_, hy2_, hy3_, hw0_, hw1_, hw2_, hw3_⟩ := zC4 hb36; clear hb36) | ((with_reducible refine gate_callee (f := 48) rfl ?_); refine goesL_ (some 19) rfl rfl Tryd.func48 (by kernel_rfl) rfl #[.int .u8 (bt a0 x6_1)] rfl (by (try simp only [List.map_toArray, List.map_cons, List.map_nil]); first | done | rfl | (simp only [List.length_drop, List.length_take]; rfl)) ?_; (with_reducible refine (lex_kind.calls k1 (bt a0 x6_1) t103 _ A6.out).mono ?_); rintro e w18 ⟨rfl, hb⟩; refine ⟨_, rfl, ?_⟩; have n0_ := Aside0.mk (Kd.R_below (by (with_reducible repeat (first | apply Kd.R_alloc | apply Kd.R_drewN | apply Kd.R_drew)); exact HO_5.out) hb); have n1_ := Aside0.mk (below_step (by repeat first | with_reducible exact HB.out | apply zS | exact HB.out) hb); clear HO_5; clear HB; have HO_5 := n0_; have HB := n1_; clear n0_ n1_; (try clear hb); (try clear hb2); (try clear hk); (try clear hi)) | ((with_reducible refine gate_callee (f := 49) rfl ?_); refine goesL_ (some 27) rfl rfl Tryd.func49 (by kernel_rfl) rfl #[.string (a0.extract (x6_1 : Int).toNat a0.size)] rfl (by (try simp only [List.map_toArray, List.map_cons, List.map_nil]); first | done | rfl | (simp only [List.length_drop, List.length_take]; rfl)) ?_; (with_reducible refine (lex_one.calls (a0.extract (x6_1 : Int).toNat a0.size) t104 t105 t106 t107 t108 _ ?side1 A11.out).mono ?_); (case side1 => exact gl_2_2 (by repeat first | with_reducible exact HB.out | apply zS | exact HB.out) hG); rintro e w19 ⟨rfl, hb⟩; refine ⟨_, rfl, ?_⟩; have n0_ := Aside0.mk (Kd.R_below (by (with_reducible repeat (first | apply Kd.R_alloc | apply Kd.R_drewN | apply Kd.R_drew)); exact HO_5.out) hb); have n1_ := Aside0.mk (below_step (by repeat first | with_reducible exact HB.out | apply zS | exact HB.out) hb); clear HO_5; clear HB; have HO_5 := n0_; have HB := n1_; clear n0_ n1_; (try clear hb); (try clear hb2); (try clear hk); (try clear hi)) | ((with_reducible refine gate_dst (N := 7) rfl ?_); refine box_event ?hg (N := 7) ?hd (cs := #[.int .i64 0, .int .i64 0, .string (⟨#[]⟩ : ByteArray), .int .i64 0]) (t := 50) ?hr ?_; (case hd => rfl); (case hg => rfl); (case hr => first | (go_simp; done) | (go_simp; rfl)); intro gb109 hg w20 hbox hb; have n0_ := Aside0.mk (Kd.R_below (Kd.R_elderB (by (with_reducible repeat (first | apply Kd.R_alloc | apply Kd.R_drewN | apply Kd.R_drew)); exact HO_5.out) gb109 (Nat.le_of_eq hg.symm)) hb); have n1_ := Aside0.mk (below_step (by repeat first | with_reducible exact HB.out | apply zS | exact HB.out) hb); have n2_ := Aside0.mk (hbox); have n3_ := Aside0.mk ((by rw [hg]; exact (below_size (by repeat first | with_reducible exact HB.out | apply zS | exact HB.out)) : w.heap.size ≤ gb109)); have n4_ := n3_; clear HO_5; clear HB; have HO_5 := n0_; have HB := n1_; have BK109 := n2_; have GW109 := n3_; have GE109 := n4_; clear n0_ n1_ n2_ n3_ n4_; clear hb hbox hg; obtain ⟨hcz21_0, hcz21_1, hcz21_2, hcz21_3, hfz21_0, hfz21_1, hfz21_2, hfz21_3⟩ := zC4 BK109.out) | ((with_reducible refine gate_builtin (b := .append) (xs := #[.tmp 35, .tmp 37]) rfl ?_); at_builtin; refine Kd.R_append k50 (w0 := w) w.heap.size rfl (.tmp 35) (.tmp 37) 40 50 (.agg #[(.int .i64 0), (.int .i64 0), (.string ⟨#[]⟩), (.int .i64 0)]) 40 rfl Tryd.underlying40 info50 rfl (by decide) (by omega) u5 x5_1 (⟨t104, t105, t106, x6_1⟩ : S50) [.int .i64 t104, .int .i64 t105, .string t106, .int .i64 x6_1] (fun k_ => k_ ≠ gb109) (fun _ => False) rfl (by first | (go_simp; done) | (go_simp; rfl)) ?aP (fun _ hk => hk.elim) ?aF ?aO ?aB ?aS ?aL ?_; (case aP => exact k50_mkM _ _ _ (⟨t104, t105, t106, x6_1⟩ : S50)); (case aB => exact (by repeat first | with_reducible exact HB.out | apply zS | refine below_set ?_ GE109.out | exact HB.out)); (case aF => exact (fun k_ hk => Kd.freshB (g := gb109) (o := .cells #[.int .i64 t104, .int .i64 t105, .string t106, .int .i64 x6_1] 50 (0, 0)) (by refine zB ?_; refine blk_put (cs := #[.int .i64 t104, .int .i64 t105, .string t106, .int .i64 t107]) ?_ 3 _ rfl; refine zB ?_; refine blk_put (cs := #[.int .i64 t104, .int .i64 t105, .string t106, .int .i64 0]) ?_ 3 _ rfl; refine zB ?_; refine blk_put (cs := #[.int .i64 t104, .int .i64 t105, .string (⟨#[]⟩ : ByteArray), .int .i64 0]) ?_ 2 _ rfl; refine zB ?_; refine blk_put (cs := #[.int .i64 t104, .int .i64 0, .string (⟨#[]⟩ : ByteArray), .int .i64 0]) ?_ 1 _ rfl; refine zB ?_; refine blk_put (cs := #[.int .i64 0, .int .i64 0, .string (⟨#[]⟩ : ByteArray), .int .i64 0]) ?_ 0 _ rfl; refine zB ?_; exact BK109.out) k_ hk)); (case aO => exact (by (with_reducible repeat (first | apply Kd.R_alloc | apply Kd.R_drewN | apply Kd.R_drew)); exact Kd.R_mono (Kd.R_far (p := ⟨gb109, 3, none⟩) (Kd.R_far (p := ⟨gb109, 3, none⟩) (Kd.R_far (p := ⟨gb109, 2, none⟩) (Kd.R_far (p := ⟨gb109, 1, none⟩) (Kd.R_far (p := ⟨gb109, 0, none⟩) (Kd.R_mono HO_5.out (fun k_ hk => (⟨hk, hk.2⟩ : _ ∧ k_ ≠ gb109))) (fun _ hk => hk.2) (.int .i64 t104)) (fun _ hk => hk.2) (.int .i64 t105)) (fun _ hk => hk.2) (.string t106)) (fun _ hk => hk.2) (.int .i64 t107)) (fun _ hk => hk.2) (.int .i64 x6_1)) (fun _ hk => hk.1.2))); (case aS => exact (below_size (by repeat first | with_reducible exact HB.out | apply zS | refine below_set ?_ GE109.out | exact HB.out))); (case aL => have := LMc17.out; omega); intro v111 w22 ho hb hg hat; rw [← Ny110.out] at ho; have n0_ := Aside0.mk (blk_grown (g := gb109) (o := .cells #[.int .i64 t104, .int .i64 t105, .string t106, .int .i64 x6_1] 50 (0, 0)) (by refine zB ?_; refine blk_put (cs := #[.int .i64 t104, .int .i64 t105, .string t106, .int .i64 t107]) ?_ 3 _ rfl; refine zB ?_; refine blk_put (cs := #[.int .i64 t104, .int .i64 t105, .string t106, .int .i64 0]) ?_ 3 _ rfl; refine zB ?_; refine blk_put (cs := #[.int .i64 t104, .int .i64 t105, .string (⟨#[]⟩ : ByteArray), .int .i64 0]) ?_ 2 _ rfl; refine zB ?_; refine blk_put (cs := #[.int .i64 t104, .int .i64 0, .string (⟨#[]⟩ : ByteArray), .int .i64 0]) ?_ 1 _ rfl; refine zB ?_; refine blk_put (cs := #[.int .i64 0, .int .i64 0, .string (⟨#[]⟩ : ByteArray), .int .i64 0]) ?_ 0 _ rfl; refine zB ?_; exact BK109.out) hg (Kd.R_away HO_5.out (fun _ hk => hk.2))); have n1_ := Aside0.mk (hb); have n2_ := Aside0.mk (ho); clear BK109; clear HB; clear HO_5; have BK109 := n0_; have HB := n1_; have HO112 := n2_; clear n0_ n1_ n2_; clear ho hb hg hat))
                    go_roundg k1
                    case measure => have := HK1.out; omega
                    case rel => exact ⟨(y110), (wrap64 (x6_1 + t108)), (by first | rfl | (simp; done) | (simp [*]; done)), H', ⟨by have := HK1.out; omega⟩, ⟨by (with_reducible repeat (first | apply Kd.R_alloc | apply Kd.R_drewN | apply Kd.R_drew)); exact Kd.R_mono HO112.out (fun _ hk => trivial)⟩, ⟨by repeat first | with_reducible exact HB.out | apply zS | refine below_set ?_ GE109.out | exact HB.out⟩⟩
                  · rw [if_neg c17] at H
                    exact absurd H (by simp)
              · rw [if_neg c10] at H
                exact absurd H (by simp)
          · rw [if_neg c4] at H
            exact absurd H (by simp)
        · rw [if_neg c3] at H
          have c3b0 : decide (x6_1 < (a0.size : Int)) = false := decide_eq_false c3
          clear c3
          simp only [Option.some.injEq, Prod.mk.injEq] at H
          obtain ⟨rfl, rfl, rfl⟩ := H
          go_wp2
          go_ret3
          exact ⟨_, by first | rfl | (simp [errW_none, errW_some] <;> rfl) | (simp [*, errW_none, errW_some] <;> rfl), by (with_reducible repeat (first | apply Kd.R_alloc | apply Kd.R_drewN | apply Kd.R_drew)); exact HO_5.out, by repeat first | with_reducible exact HB.out | apply zS | exact HB.out⟩
end Go.Proofs.YtmdmpafdpgdpoaaDoor.P

namespace Go.Proofs.YtmdmpafdpgdpoaaDoor.P
open Go.RowKit Go.Proofs.YtmdmpafdpgdpoaaDoorW.PrintWords Go.Proofs.YtmdmpafdpgdpoaaDoorW.PrintLast Go.Proofs.YtmdmpafdpgdpoaaDoorW.PrintMore
set_option linter.unusedVariables false
set_option linter.unusedSimpArgs false
def strings_ReplaceAll.f (a0 a1 a2 : ByteArray) : Option ByteArray :=
  if a0.size < 4294967281 ∧ 1 ≤ a1.size ∧ a0.size + Lib.countB a0 a1 * a2.size ≤ 140737488355328 then some ⟨(Lib.replaceAll a0.data.toList a1.data.toList a2.data.toList).toArray⟩ else none
theorem strings_ReplaceAll.calls (a0 a1 a2 : ByteArray) (r : ByteArray) (w : World) (hG : G3 w) (h : strings_ReplaceAll.f a0 a1 a2 = some r) :
    Calls Tryd.prog 51 #[.string a0, .string a1, .string a2] w fun e w' => e = .returned (.string r) ∧ Below w.heap.size w w' := by
  unfold strings_ReplaceAll.f at h
  split at h
  case isFalse => cases h
  rename_i hc
  injection h with h
  subst h
  obtain ⟨m, hm⟩ := hG.2
  exact Tryd.strings_ReplaceAll a0 a1 a2 m w hc.1 hm hc.2.1 hc.2.2
end Go.Proofs.YtmdmpafdpgdpoaaDoor.P

namespace Go.Proofs.YtmdmpafdpgdpoaaDoor.P
open Go.RowKit Go.Proofs.YtmdmpafdpgdpoaaDoorW.PrintWords Go.Proofs.YtmdmpafdpgdpoaaDoorW.PrintLast Go.Proofs.YtmdmpafdpgdpoaaDoorW.PrintMore
attribute [local go_sem] max2_int min2_int max_two min_two max_three min_three max_four min_four   -- for this text's walks alone
set_option linter.unusedVariables false
set_option linter.unusedSimpArgs false
def lex_Quote.f (a0 : ByteArray) : Option (ByteArray) := (strings_ReplaceAll.f a0 (⟨#[34]⟩ : ByteArray) (⟨#[34, 34]⟩ : ByteArray)).bind fun t113 => (if 1 + t113.size ≤ 9223372036854775807 then (if ((⟨#[34]⟩ : ByteArray) ++ t113).size + 1 ≤ 9223372036854775807 then (some (((⟨#[34]⟩ : ByteArray) ++ t113) ++ (⟨#[34]⟩ : ByteArray))) else (none)) else (none))
set_option maxHeartbeats 8000000 in
set_option maxRecDepth 100000 in
theorem lex_Quote.calls (a0 : ByteArray) (r : ByteArray) (w : World) (hG : G3 w) (h : lex_Quote.f a0 = some r) :
    Calls Tryd.prog 25 #[.string a0] w fun e w' => e = .returned (.string r) ∧ Below w.heap.size w w' := by
  have HB := Aside0.mk (Below.refl w.heap.size w)
  have H : ((strings_ReplaceAll.f a0 (⟨#[34]⟩ : ByteArray) (⟨#[34, 34]⟩ : ByteArray)).bind fun t113 => (if 1 + t113.size ≤ 9223372036854775807 then (if ((⟨#[34]⟩ : ByteArray) ++ t113).size + 1 ≤ 9223372036854775807 then (some (((⟨#[34]⟩ : ByteArray) ++ t113) ++ (⟨#[34]⟩ : ByteArray))) else (none)) else (none))) = some r := h
  clear h
  replace H := Option.bind_eq_some_iff.mp H
  obtain ⟨t113, A20, H⟩ := H
  replace H : (if 1 + t113.size ≤ 9223372036854775807 then (if ((⟨#[34]⟩ : ByteArray) ++ t113).size + 1 ≤ 9223372036854775807 then (some (((⟨#[34]⟩ : ByteArray) ++ t113) ++ (⟨#[34]⟩ : ByteArray))) else (none)) else (none)) = some r := H
  have A2 := Aside0.mk A20
  clear A20
  by_cases c3 : 1 + t113.size ≤ 9223372036854775807
  · rw [if_pos c3] at H
    have c3b0 := eq_true c3
    have c3b1 : decide (1 + t113.size ≤ 9223372036854775807) = true := decide_eq_true c3
    try have c3b2 : (9223372036854775807 < 1 + t113.size) = False := eq_false (Nat.not_lt.2 c3)
    by_cases c4 : ((⟨#[34]⟩ : ByteArray) ++ t113).size + 1 ≤ 9223372036854775807
    · rw [if_pos c4] at H
      have c4b0 := eq_true c4
      have c4b1 : decide (((⟨#[34]⟩ : ByteArray) ++ t113).size + 1 ≤ 9223372036854775807) = true := decide_eq_true c4
      try have c4b2 : (9223372036854775807 < ((⟨#[34]⟩ : ByteArray) ++ t113).size + 1) = False := eq_false (Nat.not_lt.2 c4)
      have c4x1 : (9223372036854775807 < 1 + t113.size + 1) = False := eq_false (by have z_ := c4; rw [ByteArray.size_append] at z_; have z2_ : (⟨#[34]⟩ : ByteArray).size = 1 := rfl; omega)
      have c4x2 : (9223372036854775807 < 1 + t113.size) = False := eq_false (by have z_ := c4; rw [ByteArray.size_append] at z_; have z2_ : (⟨#[34]⟩ : ByteArray).size = 1 := rfl; omega)
      obtain rfl := Option.some.inj H
      go_enter Tryd.func25, Tryd.ntmps25
      go_wp2_with (first | ((with_reducible refine gate_callee (f := 51) rfl ?_); refine goesL_ (some 4) rfl rfl Tryd.func51 (by kernel_rfl) rfl #[.string a0, .string (⟨#[34]⟩ : ByteArray), .string (⟨#[34, 34]⟩ : ByteArray)] rfl (by (try simp only [List.map_toArray, List.map_cons, List.map_nil]); first | done | rfl | (simp only [List.length_drop, List.length_take]; rfl)) ?_; (with_reducible refine (strings_ReplaceAll.calls a0 (⟨#[34]⟩ : ByteArray) (⟨#[34, 34]⟩ : ByteArray) t113 _ ?side1 A2.out).mono ?_); (case side1 => exact gl_3_3 (by repeat first | with_reducible exact HB.out | apply zS | exact HB.out) hG); rintro e w5 ⟨rfl, hb⟩; refine ⟨_, rfl, ?_⟩; have n0_ := Aside0.mk (below_step (by repeat first | with_reducible exact HB.out | apply zS | exact HB.out) hb); clear HB; have HB := n0_; clear n0_; (try clear hb); (try clear hb2); (try clear hk); (try clear hi)))
      go_ret
      exact ⟨by first | rfl | (simp [errW_none, errW_some] <;> rfl) | (simp [*, errW_none, errW_some] <;> rfl), by repeat first | with_reducible exact HB.out | apply zS | exact HB.out⟩
    · rw [if_neg c4] at H
      exact absurd H (by simp)
  · rw [if_neg c3] at H
    exact absurd H (by simp)
end Go.Proofs.YtmdmpafdpgdpoaaDoor.P

namespace Go.Proofs.YtmdmpafdpgdpoaaDoor.P
open Go.RowKit Go.Proofs.YtmdmpafdpgdpoaaDoorW.PrintWords Go.Proofs.YtmdmpafdpgdpoaaDoorW.PrintLast Go.Proofs.YtmdmpafdpgdpoaaDoorW.PrintMore
attribute [local go_sem] max2_int min2_int max_two min_two max_three min_three max_four min_four   -- for this text's walks alone
set_option linter.unusedVariables false
set_option linter.unusedSimpArgs false
def pannierlaw04_wakes.f (k : Nat)  : Option (Bool) := (lex_Cut.f k (⟨#[97, 49, 43, 34, 120, 34, 34, 121, 34, 60, 61, 48, 48, 55]⟩ : ByteArray)).bind fun bt114 => ((lex_Cut.f k (⟨#[49, 32, 43, 32, 36]⟩ : ByteArray)).bind fun bt119 => (if bt114.2.2 = 0 then (if bt114.2.1 = 0 then (if (bt114.1.length : Int) = 5 then (if 0 < (bt114.1.length : Int) then (if ((rd_T50 bt114.1 0).f2).toList = ([65, 49] : List UInt8) then (if 2 < (bt114.1.length : Int) then (if ((rd_T50 bt114.1 2).f2).toList = ([120, 34, 121] : List UInt8) then (if 3 < (bt114.1.length : Int) then (if ((rd_T50 bt114.1 3).f2).toList = ([60, 61] : List UInt8) then (if 4 < (bt114.1.length : Int) then (if ((rd_T50 bt114.1 4).f1) = 7 then (if bt119.2.2 = 12 then (if bt119.2.1 = 4 then ((lex_Quote.f (⟨#[97, 34]⟩ : ByteArray)).bind fun t128 => (some (t128.toList == ([34, 97, 34, 34, 34] : List UInt8)))) else (none)) else (none)) else (none)) else (none)) else (none)) else (none)) else (none)) else (none)) else (none)) else (none)) else (none)) else (none)) else (none)))
set_option maxHeartbeats 8000000 in
set_option maxRecDepth 100000 in
theorem pannierlaw04_wakes.calls (k : Nat)  (r : Bool) (w : World) (hG : G3 w) (h : pannierlaw04_wakes.f k  = some r) :
    Calls Tryd.prog 19 #[] w fun e w' => e = .returned (.bool r) ∧ Below w.heap.size w w' := by
  have HB := Aside0.mk (Below.refl w.heap.size w)
  have H : ((lex_Cut.f k (⟨#[97, 49, 43, 34, 120, 34, 34, 121, 34, 60, 61, 48, 48, 55]⟩ : ByteArray)).bind fun bt114 => ((lex_Cut.f k (⟨#[49, 32, 43, 32, 36]⟩ : ByteArray)).bind fun bt119 => (if bt114.2.2 = 0 then (if bt114.2.1 = 0 then (if (bt114.1.length : Int) = 5 then (if 0 < (bt114.1.length : Int) then (if ((rd_T50 bt114.1 0).f2).toList = ([65, 49] : List UInt8) then (if 2 < (bt114.1.length : Int) then (if ((rd_T50 bt114.1 2).f2).toList = ([120, 34, 121] : List UInt8) then (if 3 < (bt114.1.length : Int) then (if ((rd_T50 bt114.1 3).f2).toList = ([60, 61] : List UInt8) then (if 4 < (bt114.1.length : Int) then (if ((rd_T50 bt114.1 4).f1) = 7 then (if bt119.2.2 = 12 then (if bt119.2.1 = 4 then ((lex_Quote.f (⟨#[97, 34]⟩ : ByteArray)).bind fun t128 => (some (t128.toList == ([34, 97, 34, 34, 34] : List UInt8)))) else (none)) else (none)) else (none)) else (none)) else (none)) else (none)) else (none)) else (none)) else (none)) else (none)) else (none)) else (none)) else (none)))) = some r := h
  clear h
  replace H := Option.bind_eq_some_iff.mp H
  obtain ⟨⟨t114, t115, t116⟩, A10, H⟩ := H
  replace H : ((lex_Cut.f k (⟨#[49, 32, 43, 32, 36]⟩ : ByteArray)).bind fun bt119 => (if t116 = 0 then (if t115 = 0 then (if (t114.length : Int) = 5 then (if 0 < (t114.length : Int) then (if ((rd_T50 t114 0).f2).toList = ([65, 49] : List UInt8) then (if 2 < (t114.length : Int) then (if ((rd_T50 t114 2).f2).toList = ([120, 34, 121] : List UInt8) then (if 3 < (t114.length : Int) then (if ((rd_T50 t114 3).f2).toList = ([60, 61] : List UInt8) then (if 4 < (t114.length : Int) then (if ((rd_T50 t114 4).f1) = 7 then (if bt119.2.2 = 12 then (if bt119.2.1 = 4 then ((lex_Quote.f (⟨#[97, 34]⟩ : ByteArray)).bind fun t128 => (some (t128.toList == ([34, 97, 34, 34, 34] : List UInt8)))) else (none)) else (none)) else (none)) else (none)) else (none)) else (none)) else (none)) else (none)) else (none)) else (none)) else (none)) else (none)) else (none))) = some r := H
  have A1 := Aside0.mk A10
  clear A10
  replace H := Option.bind_eq_some_iff.mp H
  obtain ⟨⟨t119, t120, t121⟩, A20, H⟩ := H
  replace H : (if t116 = 0 then (if t115 = 0 then (if (t114.length : Int) = 5 then (if 0 < (t114.length : Int) then (if ((rd_T50 t114 0).f2).toList = ([65, 49] : List UInt8) then (if 2 < (t114.length : Int) then (if ((rd_T50 t114 2).f2).toList = ([120, 34, 121] : List UInt8) then (if 3 < (t114.length : Int) then (if ((rd_T50 t114 3).f2).toList = ([60, 61] : List UInt8) then (if 4 < (t114.length : Int) then (if ((rd_T50 t114 4).f1) = 7 then (if t121 = 12 then (if t120 = 4 then ((lex_Quote.f (⟨#[97, 34]⟩ : ByteArray)).bind fun t128 => (some (t128.toList == ([34, 97, 34, 34, 34] : List UInt8)))) else (none)) else (none)) else (none)) else (none)) else (none)) else (none)) else (none)) else (none)) else (none)) else (none)) else (none)) else (none)) else (none)) = some r := H
  have A2 := Aside0.mk A20
  clear A20
  by_cases c3 : t116 = 0
  · rw [if_pos c3] at H
    have c3b0 : (t116 == 0) = true := beq_iff_eq.mpr c3
    have c3b1 : (t116 != 0) = false := bne_eq_false_iff_eq.mpr c3
    clear c3
    by_cases c4 : t115 = 0
    · rw [if_pos c4] at H
      have c4b0 : (t115 == 0) = true := beq_iff_eq.mpr c4
      have c4b1 : (t115 != 0) = false := bne_eq_false_iff_eq.mpr c4
      clear c4
      by_cases c5 : (t114.length : Int) = 5
      · rw [if_pos c5] at H
        have c5b0 : ((t114.length : Int) == 5) = true := beq_iff_eq.mpr c5
        have c5b1 : ((t114.length : Int) != 5) = false := bne_eq_false_iff_eq.mpr c5
        clear c5
        by_cases c6 : 0 < (t114.length : Int)
        · rw [if_pos c6] at H
          have c6b0 : decide (0 < (t114.length : Int)) = true := decide_eq_true c6
          have c6b1 : decide (0 < t114.length) = true := decide_eq_true (by omega)
          clear c6
          by_cases c7 : ((rd_T50 t114 0).f2).toList = ([65, 49] : List UInt8)
          · rw [if_pos c7] at H
            have c7b0 : (((rd_T50 t114 0).f2).toList == ([65, 49] : List UInt8)) = true := beq_iff_eq.mpr c7
            have c7b1 : (((rd_T50 t114 0).f2).toList != ([65, 49] : List UInt8)) = false := bne_eq_false_iff_eq.mpr c7
            clear c7
            by_cases c8 : 2 < (t114.length : Int)
            · rw [if_pos c8] at H
              have c8b0 : decide (2 < (t114.length : Int)) = true := decide_eq_true c8
              have c8b1 : decide (2 < t114.length) = true := decide_eq_true (by omega)
              clear c8
              by_cases c9 : ((rd_T50 t114 2).f2).toList = ([120, 34, 121] : List UInt8)
              · rw [if_pos c9] at H
                have c9b0 : (((rd_T50 t114 2).f2).toList == ([120, 34, 121] : List UInt8)) = true := beq_iff_eq.mpr c9
                have c9b1 : (((rd_T50 t114 2).f2).toList != ([120, 34, 121] : List UInt8)) = false := bne_eq_false_iff_eq.mpr c9
                clear c9
                by_cases c10 : 3 < (t114.length : Int)
                · rw [if_pos c10] at H
                  have c10b0 : decide (3 < (t114.length : Int)) = true := decide_eq_true c10
                  have c10b1 : decide (3 < t114.length) = true := decide_eq_true (by omega)
                  clear c10
                  by_cases c11 : ((rd_T50 t114 3).f2).toList = ([60, 61] : List UInt8)
                  · rw [if_pos c11] at H
                    have c11b0 : (((rd_T50 t114 3).f2).toList == ([60, 61] : List UInt8)) = true := beq_iff_eq.mpr c11
                    have c11b1 : (((rd_T50 t114 3).f2).toList != ([60, 61] : List UInt8)) = false := bne_eq_false_iff_eq.mpr c11
                    clear c11
                    by_cases c12 : 4 < (t114.length : Int)
                    · rw [if_pos c12] at H
                      have c12b0 : decide (4 < (t114.length : Int)) = true := decide_eq_true c12
                      have c12b1 : decide (4 < t114.length) = true := decide_eq_true (by omega)
                      clear c12
                      by_cases c13 : ((rd_T50 t114 4).f1) = 7
                      · rw [if_pos c13] at H
                        have c13b0 : (((rd_T50 t114 4).f1) == 7) = true := beq_iff_eq.mpr c13
                        have c13b1 : (((rd_T50 t114 4).f1) != 7) = false := bne_eq_false_iff_eq.mpr c13
                        clear c13
                        by_cases c14 : t121 = 12
                        · rw [if_pos c14] at H
                          have c14b0 : (t121 == 12) = true := beq_iff_eq.mpr c14
                          have c14b1 : (t121 != 12) = false := bne_eq_false_iff_eq.mpr c14
                          clear c14
                          by_cases c15 : t120 = 4
                          · rw [if_pos c15] at H
                            have c15b0 : (t120 == 4) = true := beq_iff_eq.mpr c15
                            have c15b1 : (t120 != 4) = false := bne_eq_false_iff_eq.mpr c15
                            clear c15
                            replace H := Option.bind_eq_some_iff.mp H
                            obtain ⟨t128, A160, H⟩ := H
                            replace H : (some (t128.toList == ([34, 97, 34, 34, 34] : List UInt8))) = some r := H
                            have A16 := Aside0.mk A160
                            clear A160
                            obtain rfl := Option.some.inj H
                            go_enter Tryd.func19, Tryd.ntmps19
                            go_wp2_with (first | ((with_reducible refine gate_callee (f := 20) rfl ?_); refine goesL_ (some 8) rfl rfl Tryd.func20 (by kernel_rfl) rfl #[.string (⟨#[97, 49, 43, 34, 120, 34, 34, 121, 34, 60, 61, 48, 48, 55]⟩ : ByteArray)] rfl (by (try simp only [List.map_toArray, List.map_cons, List.map_nil]); first | done | rfl | (simp only [List.length_drop, List.length_take]; rfl)) ?_; (with_reducible refine (lex_Cut.calls k (⟨#[97, 49, 43, 34, 120, 34, 34, 121, 34, 60, 61, 48, 48, 55]⟩ : ByteArray) t114 t115 t116 _ ?side1 A1.out).mono ?_); (case side1 => exact gl_3_2 (by repeat first | with_reducible exact HB.out | apply zS | exact HB.out) hG); rintro e w17 ⟨v117, rfl, ho0, hb⟩; refine ⟨_, rfl, ?_⟩; have n0_ := Aside0.mk (Kd.R_lower ho0 (below_size (by repeat first | with_reducible exact HB.out | apply zS | exact HB.out))); have n1_ := Aside0.mk (below_step (by repeat first | with_reducible exact HB.out | apply zS | exact HB.out) hb); clear HB; have HO118 := n0_; have HB := n1_; clear n0_ n1_; (try clear hb); (try clear hb2); (try clear hk); (try clear hi); (try clear ho0)) | ((with_reducible refine gate_callee (f := 20) rfl ?_); refine goesL_ (some 13) rfl rfl Tryd.func20 (by kernel_rfl) rfl #[.string (⟨#[49, 32, 43, 32, 36]⟩ : ByteArray)] rfl (by (try simp only [List.map_toArray, List.map_cons, List.map_nil]); first | done | rfl | (simp only [List.length_drop, List.length_take]; rfl)) ?_; (with_reducible refine (lex_Cut.calls k (⟨#[49, 32, 43, 32, 36]⟩ : ByteArray) t119 t120 t121 _ ?side1 A2.out).mono ?_); (case side1 => exact gl_3_2 (by repeat first | with_reducible exact HB.out | apply zS | exact HB.out) hG); rintro e w18 ⟨v122, rfl, ho0, hb⟩; refine ⟨_, rfl, ?_⟩; have n0_ := Aside0.mk (Kd.R_elder' (by (with_reducible repeat (first | apply Kd.R_alloc | apply Kd.R_drewN | apply Kd.R_drew)); exact HO118.out) (Kd.R_base ho0) hb); have n1_ := Aside0.mk (Kd.R_lower (Kd.R_new' ho0 (Kd.R_lt (by (with_reducible repeat (first | apply Kd.R_alloc | apply Kd.R_drewN | apply Kd.R_drew)); exact HO118.out))) (below_size (by repeat first | with_reducible exact HB.out | apply zS | exact HB.out))); have n2_ := Aside0.mk (below_step (by repeat first | with_reducible exact HB.out | apply zS | exact HB.out) hb); clear HO118; clear HB; have HO118 := n0_; have HO123 := n1_; have HB := n2_; clear n0_ n1_ n2_; (try clear hb); (try clear hb2); (try clear hk); (try clear hi); (try clear ho0); obtain ⟨Ao19, co19, eo19⟩ := Kd.R_slice HO118.out; subst eo19; have p124 : 0 ≤ (0 : Int) := (by omega); have q124 : 0 < (t114.length : Int) := of_decide_eq_true (by first | (with_reducible assumption) | assumption); obtain ⟨ad124, e124, hx124_0, hx124_1, hx124_2, hx124_3⟩ := at_T50 (Kd.R_reads' HO118.out).2.2 0 p124 q124; cases e124; have qi124 : (0 < t114.length) = True := eq_true (by omega); (try rw [show ((0 : Int)).toNat = 0 from rfl] at hx124_0); (try rw [show 0 * 4 = 0 from rfl] at hx124_0); (try rw [Addr.add_zero'] at hx124_0); (try rw [show ((0 : Int)).toNat = 0 from rfl] at hx124_1); (try rw [show 0 * 4 = 0 from rfl] at hx124_1); (try rw [Addr.add_zero'] at hx124_1); (try rw [show ((0 : Int)).toNat = 0 from rfl] at hx124_2); (try rw [show 0 * 4 = 0 from rfl] at hx124_2); (try rw [Addr.add_zero'] at hx124_2); (try rw [show ((0 : Int)).toNat = 0 from rfl] at hx124_3); (try rw [show 0 * 4 = 0 from rfl] at hx124_3); (try rw [Addr.add_zero'] at hx124_3); replace p124 := eq_true p124; replace q124 := eq_true q124; have p125 : 0 ≤ (2 : Int) := (by omega); have q125 : 2 < (t114.length : Int) := of_decide_eq_true (by first | (with_reducible assumption) | assumption); obtain ⟨ad125, e125, hx125_0, hx125_1, hx125_2, hx125_3⟩ := at_T50 (Kd.R_reads' HO118.out).2.2 2 p125 q125; obtain rfl : ad124 = ad125 := (by injection e125); (try simp only [show (2 : Int).toNat = 2 from rfl, Nat.reduceMul, Nat.reduceEqDiff, Go.Addr.add, ↓reduceIte] at hx125_0); (try simp only [show (2 : Int).toNat = 2 from rfl, Nat.reduceMul, Nat.reduceEqDiff, Go.Addr.add, ↓reduceIte] at hx125_1); (try simp only [show (2 : Int).toNat = 2 from rfl, Nat.reduceMul, Nat.reduceEqDiff, Go.Addr.add, ↓reduceIte] at hx125_2); (try simp only [show (2 : Int).toNat = 2 from rfl, Nat.reduceMul, Nat.reduceEqDiff, Go.Addr.add, ↓reduceIte] at hx125_3); have qi125 : (2 < t114.length) = True := eq_true (by omega); (try rw [show ((2 : Int)).toNat = 2 from rfl] at hx125_0); (try rw [show 2 * 4 = 8 from rfl] at hx125_0); (try rw [show ((2 : Int)).toNat = 2 from rfl] at hx125_1); (try rw [show 2 * 4 = 8 from rfl] at hx125_1); (try rw [show ((2 : Int)).toNat = 2 from rfl] at hx125_2); (try rw [show 2 * 4 = 8 from rfl] at hx125_2); (try rw [show ((2 : Int)).toNat = 2 from rfl] at hx125_3); (try rw [show 2 * 4 = 8 from rfl] at hx125_3); replace p125 := eq_true p125; replace q125 := eq_true q125; have p126 : 0 ≤ (3 : Int) := (by omega); have q126 : 3 < (t114.length : Int) := of_decide_eq_true (by first | (with_reducible assumption) | assumption); obtain ⟨ad126, e126, hx126_0, hx126_1, hx126_2, hx126_3⟩ := at_T50 (Kd.R_reads' HO118.out).2.2 3 p126 q126; obtain rfl : ad124 = ad126 := (by injection e126); (try simp only [show (3 : Int).toNat = 3 from rfl, Nat.reduceMul, Nat.reduceEqDiff, Go.Addr.add, ↓reduceIte] at hx126_0); (try simp only [show (3 : Int).toNat = 3 from rfl, Nat.reduceMul, Nat.reduceEqDiff, Go.Addr.add, ↓reduceIte] at hx126_1); (try simp only [show (3 : Int).toNat = 3 from rfl, Nat.reduceMul, Nat.reduceEqDiff, Go.Addr.add, ↓reduceIte] at hx126_2); (try simp only [show (3 : Int).toNat = 3 from rfl, Nat.reduceMul, Nat.reduceEqDiff, Go.Addr.add, ↓reduceIte] at hx126_3); have qi126 : (3 < t114.length) = True := eq_true (by omega); (try rw [show ((3 : Int)).toNat = 3 from rfl] at hx126_0); (try rw [show 3 * 4 = 12 from rfl] at hx126_0); (try rw [show ((3 : Int)).toNat = 3 from rfl] at hx126_1); (try rw [show 3 * 4 = 12 from rfl] at hx126_1); (try rw [show ((3 : Int)).toNat = 3 from rfl] at hx126_2); (try rw [show 3 * 4 = 12 from rfl] at hx126_2); (try rw [show ((3 : Int)).toNat = 3 from rfl] at hx126_3); (try rw [show 3 * 4 = 12 from rfl] at hx126_3); replace p126 := eq_true p126; replace q126 := eq_true q126; have p127 : 0 ≤ (4 : Int) := (by omega); have q127 : 4 < (t114.length : Int) := of_decide_eq_true (by first | (with_reducible assumption) | assumption); obtain ⟨ad127, e127, hx127_0, hx127_1, hx127_2, hx127_3⟩ := at_T50 (Kd.R_reads' HO118.out).2.2 4 p127 q127; obtain rfl : ad124 = ad127 := (by injection e127); (try simp only [show (4 : Int).toNat = 4 from rfl, Nat.reduceMul, Nat.reduceEqDiff, Go.Addr.add, ↓reduceIte] at hx127_0); (try simp only [show (4 : Int).toNat = 4 from rfl, Nat.reduceMul, Nat.reduceEqDiff, Go.Addr.add, ↓reduceIte] at hx127_1); (try simp only [show (4 : Int).toNat = 4 from rfl, Nat.reduceMul, Nat.reduceEqDiff, Go.Addr.add, ↓reduceIte] at hx127_2); (try simp only [show (4 : Int).toNat = 4 from rfl, Nat.reduceMul, Nat.reduceEqDiff, Go.Addr.add, ↓reduceIte] at hx127_3); have qi127 : (4 < t114.length) = True := eq_true (by omega); (try rw [show ((4 : Int)).toNat = 4 from rfl] at hx127_0); (try rw [show 4 * 4 = 16 from rfl] at hx127_0); (try rw [show ((4 : Int)).toNat = 4 from rfl] at hx127_1); (try rw [show 4 * 4 = 16 from rfl] at hx127_1); (try rw [show ((4 : Int)).toNat = 4 from rfl] at hx127_2); (try rw [show 4 * 4 = 16 from rfl] at hx127_2); (try rw [show ((4 : Int)).toNat = 4 from rfl] at hx127_3); (try rw [show 4 * 4 = 16 from rfl] at hx127_3); replace p127 := eq_true p127; replace q127 := eq_true q127) | (go_at_call 25; (with_reducible refine (lex_Quote.calls (⟨#[97, 34]⟩ : ByteArray) t128 _ ?side1 A16.out).mono ?_); (case side1 => exact gl_3_3 (by repeat first | with_reducible exact HB.out | apply zS | exact HB.out) hG); rintro e w20 ⟨rfl, hb⟩; have n0_ := Aside0.mk (Kd.R_below (by (with_reducible repeat (first | apply Kd.R_alloc | apply Kd.R_drewN | apply Kd.R_drew)); exact HO118.out) hb); have n1_ := Aside0.mk (Kd.R_below (by (with_reducible repeat (first | apply Kd.R_alloc | apply Kd.R_drewN | apply Kd.R_drew)); exact HO123.out) hb); have n2_ := Aside0.mk (below_step (by repeat first | with_reducible exact HB.out | apply zS | exact HB.out) hb); clear HO118; clear HO123; clear HB; have HO118 := n0_; have HO123 := n1_; have HB := n2_; clear n0_ n1_ n2_; (try clear hb); (try clear hb2); (try clear hk); (try clear hi)))
                            go_ret
                            exact ⟨by first | rfl | (simp [errW_none, errW_some] <;> rfl) | (simp [*, errW_none, errW_some] <;> rfl), by repeat first | with_reducible exact HB.out | apply zS | exact HB.out⟩
                          · rw [if_neg c15] at H
                            exact absurd H (by simp)
                        · rw [if_neg c14] at H
                          exact absurd H (by simp)
                      · rw [if_neg c13] at H
                        exact absurd H (by simp)
                    · rw [if_neg c12] at H
                      exact absurd H (by simp)
                  · rw [if_neg c11] at H
                    exact absurd H (by simp)
                · rw [if_neg c10] at H
                  exact absurd H (by simp)
              · rw [if_neg c9] at H
                exact absurd H (by simp)
            · rw [if_neg c8] at H
              exact absurd H (by simp)
          · rw [if_neg c7] at H
            exact absurd H (by simp)
        · rw [if_neg c6] at H
          exact absurd H (by simp)
      · rw [if_neg c5] at H
        exact absurd H (by simp)
    · rw [if_neg c4] at H
      exact absurd H (by simp)
  · rw [if_neg c3] at H
    exact absurd H (by simp)
end Go.Proofs.YtmdmpafdpgdpoaaDoor.P
