/- Contracts of the functions that the law reaches, each with the plain function that it comes to, and plain facts about these. -/
import Derived.Test.YtnomfbmebafolaaGreatDoorProg
import Derived.Below
import Derived.Deep.Draws
import Derived.Deep.AppendLies
import Derived.Maps.AppendAt
import Derived.OwnWalk
import Derived.Laws.BytesArg
import Derived.Laws.MakeOwn
import Derived.Laws.OwnMore
import Derived.Deep.OwnRows
import Derived.Tactics
import Derived.Lib.ConvBytes
import Derived.Laws.Slices
import Derived.WalkKit
import Derived.KernelRfl
import Derived.RowKit3
import Derived.Deep.LoopGhost
import Derived.Deep.QuietTactic
import Derived.BigQuiet
import Derived.WideLaws
import Derived.Deep.DeepCutAuto
import Derived.Deep.CutBlock
import Derived.Deep.RegionHeld3
import Derived.Laws.Rows
import Derived.Lib.AppendStr
import Derived.ArgAppend
import Derived.Laws.IdiomCopy
import Derived.OrdersHeld
import Derived.Laws.BitsLemmas
import Derived.RowKit
import Derived.Shelf.Strings.Builder1
import Derived.Shelf.Strings.Builder2
import Derived.Shelf.Small.Strs
import Derived.Shelf.Strings.BuilderF
import Derived.Shelf.Strings.BuilderK
import Derived.Shelf.Strings.Builder2Cap
import Derived.Shelf.Strconv.Itoa0
import Derived.Shelf.Strconv.Itoa1
import Derived.Shelf.LaysM
import Derived.Shelf.Strconv.Itoa2
import Derived.Shelf.Strconv.Itoa3
import Derived.Shelf.Strconv.Itoa4
import Derived.Shelf.Strconv.ParseIntEmpty
import Derived.Shelf.Strconv.Clone
import Derived.Shelf.Strconv.SyntaxError
import Derived.Shelf.LaysC
import Derived.Shelf.Strconv.ToError
import Derived.Shelf.Strconv.Lower
import Derived.Shelf.Strconv.ParseUint10
import Derived.Shelf.Strconv.ParseUint10Empty
import Derived.Shelf.Strconv.ParseUint10Any
import Derived.Shelf.Strconv.ParseInt10
import Derived.Shelf.Strconv.RangeError
import Derived.Shelf.Strconv.ToErrorRange
import Derived.Shelf.Strconv.ParseUintEmpty
import Derived.Shelf.Strconv.ParseUint10b64
import Derived.Shelf.Strconv.ParseUint10b32
import Derived.Shelf.Strconv.ParseUint10b16
import Derived.Shelf.Strconv.ParseUint10b8
import Derived.Shelf.Strconv.ParseUint10At
import Derived.Shelf.Strconv.ParseInt10At64
import Derived.Shelf.Strconv.ParseInt10At32
import Derived.Shelf.Strconv.ParseInt10At16
import Derived.Shelf.Strconv.ParseInt10At8
import Derived.Shelf.Strconv.ParseInt10All
import Derived.Shelf.Strconv.ParseIntPublic10
import Derived.Shelf.Strconv.ErrVarParseInt
import Derived.Shelf.Strings.Search1
import Derived.Shelf.Strings.Search2
import Derived.Shelf.Strings.Search3
import Derived.Shelf.Strings.Count
import Derived.Shelf.Strings.Shaped
import Derived.Shelf.Strings.Split
import Derived.Shelf.Strings.Replace
import Derived.Shelf.Strings.SplitShaped
import Derived.Shelf.Unicode.DecodeSlow
import Derived.Shelf.Strings.BuilderCap
import Derived.Shelf.Slices.Turned
import Derived.Lib.ItoaNum
import Derived.Lib.ParseIntBTie
import Derived.Lib.LaidTab
import Derived.Lib.AppendIntMem
import Derived.WalkSmall
import Derived.StillTailTactics
import Derived.Test.YtnomfbmebafolaaGreatDoorBL1
namespace Go.Proofs.YtnomfbmebafolaaGreatDoor.P
open Go.RowKit Go.Proofs.YtnomfbmebafolaaGreatDoorW.PrintWords Go.Proofs.YtnomfbmebafolaaGreatDoorW.PrintLast Go.Proofs.YtnomfbmebafolaaGreatDoorW.PrintMore
attribute [local go_sem] max2_int min2_int max_two min_two max_three min_three max_four min_four   -- for this text's walks alone
set_option linter.unusedVariables false
set_option linter.unusedSimpArgs false
def errW : Option Int → Value
  | none => .nilIface
  | some c => .iface 0 (.int .i64 c)
theorem errW_none : errW none = .nilIface := rfl
theorem errW_some (c : Int) : errW (some c) = .iface 0 (.int .i64 c) := rfl
theorem info31 : (Tryz.prog.info? 31).map (fun i => (i.zero, i.size, i.bytes)) = some (some (.agg #[(.int .i64 0), (.int .i64 0), (.int .i64 0), (.string ⟨#[]⟩), (.int .i64 0), (.int .i64 0), (.int .i64 0), (.int .i64 0), (.string ⟨#[]⟩), (.slice none 0 0)]), 10, 112) := by kernel_rfl
theorem info137 : (Tryz.prog.info? 137).map (fun i => (i.zero, i.size, i.bytes)) = some (some (.agg #[(.int .i64 0), (.int .i64 0), (.string ⟨#[]⟩), (.int .i64 0)]), 4, 40) := by kernel_rfl
structure S137 where
  f0 : Int
  f1 : Int
  f2 : ByteArray
  f3 : Int
def z137 : S137 := ⟨(0 : Int), (0 : Int), (⟨#[]⟩ : ByteArray), (0 : Int)⟩
def k137 : Kd S137 := Kd.iso (Kd.pair (Kd.int .i64) (Kd.pair (Kd.int .i64) (Kd.pair Kd.string (Kd.int .i64)))) (fun x : S137 => (x.f0, x.f1, x.f2, x.f3))
theorem k137_open {w : World} {x : S137} {cs : List Value} (h : k137.K w x cs) : cs = [.int .i64 x.f0, .int .i64 x.f1, .string x.f2, .int .i64 x.f3] := by
  obtain ⟨_, _, rfl, rfl, ⟨_, _, rfl, rfl, ⟨_, _, rfl, rfl, rfl⟩⟩⟩ := h
  exact rfl
theorem k137_mkM (w : World) (base : Nat) (ok : Nat → Prop) (x : S137)  : k137.M w base ok x [.int .i64 x.f0, .int .i64 x.f1, .string x.f2, .int .i64 x.f3] := ⟨[.int .i64 x.f0], [.int .i64 x.f1, .string x.f2, .int .i64 x.f3], rfl, rfl, ⟨[.int .i64 x.f1], [.string x.f2, .int .i64 x.f3], rfl, rfl, ⟨[.string x.f2], [.int .i64 x.f3], rfl, rfl, rfl⟩⟩⟩
def rd_T137 (xs : List S137) (i : Int) : S137 := xs.getD i.toNat z137
theorem at_T137 {w : World} {A : Option Addr} {n : Nat} {xs : List S137} (h : Kd.C k137 w A n xs) (i : Int) (h0 : 0 ≤ i) (h1 : i < n) : ∃ ad , A = some ad ∧ w.cell? (ad.add (i.toNat * 4)) = some (.int .i64 (rd_T137 xs i).f0) ∧ w.cell? ⟨(ad.add (i.toNat * 4)).block, (ad.add (i.toNat * 4)).off + 1, none⟩ = some (.int .i64 (rd_T137 xs i).f1) ∧ w.cell? ⟨(ad.add (i.toNat * 4)).block, (ad.add (i.toNat * 4)).off + 2, none⟩ = some (.string (rd_T137 xs i).f2) ∧ w.cell? ⟨(ad.add (i.toNat * 4)).block, (ad.add (i.toNat * 4)).off + 3, none⟩ = some (.int .i64 (rd_T137 xs i).f3) := by
  obtain ⟨ad, c, e, _, hK, hc0⟩ := Kd.C_get h z137 i h0 h1
  have hc : ∀ j u, c[j]? = some u → w.cell? (ad.add (i.toNat * 4 + j)) = some u := hc0
  obtain rfl := k137_open hK
  exact ⟨ad, e, hc 0 _ rfl, by rw [← add_field _ _ 1 (by omega)]; exact hc 1 _ rfl, by rw [← add_field _ _ 2 (by omega)]; exact hc 2 _ rfl, by rw [← add_field _ _ 3 (by omega)]; exact hc 3 _ rfl⟩
structure S24 where
  f0 : Int
  f1 : Int
  f2 : ByteArray
def z24 : S24 := ⟨(0 : Int), (0 : Int), (⟨#[]⟩ : ByteArray)⟩
def k24 : Kd S24 := Kd.iso (Kd.pair (Kd.int .i64) (Kd.pair (Kd.int .i64) Kd.string)) (fun x : S24 => (x.f0, x.f1, x.f2))
theorem k24_open {w : World} {x : S24} {cs : List Value} (h : k24.K w x cs) : cs = [.int .i64 x.f0, .int .i64 x.f1, .string x.f2] := by
  obtain ⟨_, _, rfl, rfl, ⟨_, _, rfl, rfl, rfl⟩⟩ := h
  exact rfl
theorem k24_mk (w : World) (x : S24)  : k24.K w x [.int .i64 x.f0, .int .i64 x.f1, .string x.f2] := ⟨[.int .i64 x.f0], [.int .i64 x.f1, .string x.f2], rfl, rfl, ⟨[.int .i64 x.f1], [.string x.f2], rfl, rfl, rfl⟩⟩
structure S26 where
  f0 : Int
  f1 : Int
def z26 : S26 := ⟨(0 : Int), (0 : Int)⟩
def k26 : Kd S26 := Kd.iso (Kd.pair (Kd.int .i64) (Kd.int .i64)) (fun x : S26 => (x.f0, x.f1))
theorem k26_open {w : World} {x : S26} {cs : List Value} (h : k26.K w x cs) : cs = [.int .i64 x.f0, .int .i64 x.f1] := by
  obtain ⟨_, _, rfl, rfl, rfl⟩ := h
  exact rfl
theorem k26_mk (w : World) (x : S26)  : k26.K w x [.int .i64 x.f0, .int .i64 x.f1] := ⟨[.int .i64 x.f0], [.int .i64 x.f1], rfl, rfl, rfl⟩
structure S28 where
  f0 : S26
  f1 : S26
def z28 : S28 := ⟨z26, z26⟩
def k28 : Kd S28 := Kd.iso (Kd.pair k26 k26) (fun x : S28 => (x.f0, x.f1))
theorem k28_open {w : World} {x : S28} {cs : List Value} (h : k28.K w x cs) : cs = [.int .i64 x.f0.f0, .int .i64 x.f0.f1, .int .i64 x.f1.f0, .int .i64 x.f1.f1] := by
  obtain ⟨_, _, rfl, s0, s2⟩ := h
  obtain rfl := k26_open s0
  obtain rfl := k26_open s2
  exact rfl
theorem k28_mk (w : World) (x : S28)  : k28.K w x [.int .i64 x.f0.f0, .int .i64 x.f0.f1, .int .i64 x.f1.f0, .int .i64 x.f1.f1] := ⟨[.int .i64 x.f0.f0, .int .i64 x.f0.f1], [.int .i64 x.f1.f0, .int .i64 x.f1.f1], rfl, (k26_mk w x.f0 ), (k26_mk w x.f1 )⟩
structure S31 where
  f0 : Int
  f1 : S24
  f2 : S28
  f3 : ByteArray
  f4 : (List S31)
def z31 : S31 := ⟨(0 : Int), z24, z28, (⟨#[]⟩ : ByteArray), ([] : List S31)⟩
def F31 (d : Kd S31) : Kd S31 := Kd.iso (Kd.pair (Kd.int .i64) (Kd.pair k24 (Kd.pair k28 (Kd.pair Kd.string (Kd.slice 31 d))))) (fun x : S31 => (x.f0, x.f1, x.f2, x.f3, x.f4))
theorem mono31 : Kd.Mono F31 := Kd.mono_iso _ (Kd.mono_pair (Kd.mono_const _) (Kd.mono_pair (Kd.mono_const _) (Kd.mono_pair (Kd.mono_const _) (Kd.mono_pair (Kd.mono_const _) (Kd.mono_slice 31 Kd.mono_id)))))
theorem sub31 : Kd.Sub F31 [31] := Kd.sub_iso _ (Kd.sub_pair (Kd.sub_const _ (by decide)) (Kd.sub_pair (Kd.sub_const _ (by decide)) (Kd.sub_pair (Kd.sub_const _ (by decide)) (Kd.sub_pair (Kd.sub_const _ (by decide)) (Kd.sub_slice 31 (by decide) Kd.sub_id)))))
theorem sz31 : ∀ n, (Kd.upto F31 10 [31] n).sz = 10 := Kd.upto_sz (fun _ => rfl)
def k31 : Kd S31 := Kd.fix F31 10 [31] sz31 (Kd.upto_E sub31)
theorem k31_open {w : World} {x : S31} {cs : List Value} (h : k31.K w x cs) : ∃ A9 c9, cs = [.int .i64 x.f0, .int .i64 x.f1.f0, .int .i64 x.f1.f1, .string x.f1.f2, .int .i64 x.f2.f0.f0, .int .i64 x.f2.f0.f1, .int .i64 x.f2.f1.f0, .int .i64 x.f2.f1.f1, .string x.f3, .slice A9 x.f4.length c9] ∧ x.f4.length ≤ c9 ∧ k31.C w A9 x.f4.length x.f4 := by
  obtain ⟨n, h⟩ := h
  cases n with
  | zero => exact h.elim
  | succ n =>
    obtain ⟨_, _, rfl, rfl, ⟨_, _, rfl, s1, ⟨_, _, rfl, s4, ⟨_, _, rfl, rfl, ⟨A9, c9, rfl, l9, g9⟩⟩⟩⟩⟩ := h
    obtain rfl := k24_open s1
    obtain rfl := k28_open s4
    exact ⟨A9, c9, rfl, l9, Kd.fix_C g9⟩
theorem k31_mk (w : World) (x : S31) {A9 : Option Addr} {c9 : Nat} (l9 : x.f4.length ≤ c9) (g9 : k31.C w A9 x.f4.length x.f4) : k31.K w x [.int .i64 x.f0, .int .i64 x.f1.f0, .int .i64 x.f1.f1, .string x.f1.f2, .int .i64 x.f2.f0.f0, .int .i64 x.f2.f0.f1, .int .i64 x.f2.f1.f0, .int .i64 x.f2.f1.f1, .string x.f3, .slice A9 x.f4.length c9] := by
  obtain ⟨n9, q9⟩ := Kd.fix_C_back mono31 g9
  have r9 := Kd.upto_C_le mono31 sz31 (show n9 ≤ n9 by omega) q9
  exact ⟨n9 + 1, ⟨[.int .i64 x.f0], [.int .i64 x.f1.f0, .int .i64 x.f1.f1, .string x.f1.f2, .int .i64 x.f2.f0.f0, .int .i64 x.f2.f0.f1, .int .i64 x.f2.f1.f0, .int .i64 x.f2.f1.f1, .string x.f3, .slice A9 x.f4.length c9], rfl, rfl, ⟨[.int .i64 x.f1.f0, .int .i64 x.f1.f1, .string x.f1.f2], [.int .i64 x.f2.f0.f0, .int .i64 x.f2.f0.f1, .int .i64 x.f2.f1.f0, .int .i64 x.f2.f1.f1, .string x.f3, .slice A9 x.f4.length c9], rfl, (k24_mk w x.f1 ), ⟨[.int .i64 x.f2.f0.f0, .int .i64 x.f2.f0.f1, .int .i64 x.f2.f1.f0, .int .i64 x.f2.f1.f1], [.string x.f3, .slice A9 x.f4.length c9], rfl, (k28_mk w x.f2 ), ⟨[.string x.f3], [.slice A9 x.f4.length c9], rfl, rfl, ⟨A9, c9, rfl, l9, r9⟩⟩⟩⟩⟩⟩
theorem k31_openF {W : World} {ok : Nat → Prop} {x : S31} {cs : List Value} (h : Kd.FK k31 W ok x cs) : ∃ A9 c9, cs = [.int .i64 x.f0, .int .i64 x.f1.f0, .int .i64 x.f1.f1, .string x.f1.f2, .int .i64 x.f2.f0.f0, .int .i64 x.f2.f0.f1, .int .i64 x.f2.f1.f0, .int .i64 x.f2.f1.f1, .string x.f3, .slice A9 x.f4.length c9] ∧ x.f4.length ≤ c9 ∧ Kd.F k31 W ok A9 x.f4.length x.f4 := by
  obtain ⟨A9, c9, rfl, l9, _⟩ := k31_open (Kd.FK_now h)
  exact ⟨A9, c9, rfl, l9, (fun W' hW => by obtain ⟨A9_, c9_, he, l9_, g9_⟩ := k31_open (h W' hW); injection (Option.some.inj (show some (Value.slice A9 x.f4.length c9) = some (Value.slice A9_ x.f4.length c9_) from congrArg (fun l => l[9]?) he)) with ha_ _ _; rw [ha_]; exact g9_)⟩
theorem k31_mkF (W : World) (ok : Nat → Prop) (x : S31) {A9 : Option Addr} {c9 : Nat} (l9 : x.f4.length ≤ c9) (g9 : Kd.F k31 W ok A9 x.f4.length x.f4) : Kd.FK k31 W ok x [.int .i64 x.f0, .int .i64 x.f1.f0, .int .i64 x.f1.f1, .string x.f1.f2, .int .i64 x.f2.f0.f0, .int .i64 x.f2.f0.f1, .int .i64 x.f2.f1.f0, .int .i64 x.f2.f1.f1, .string x.f3, .slice A9 x.f4.length c9] := fun W2 hW => k31_mk W2 x l9 (g9 W2 hW)
def rd_T31 (xs : List S31) (i : Int) : S31 := xs.getD i.toNat z31
theorem at_T31 {w : World} {A : Option Addr} {n : Nat} {xs : List S31} (h : Kd.C k31 w A n xs) (i : Int) (h0 : 0 ≤ i) (h1 : i < n) : ∃ ad A9 c9, A = some ad ∧ w.cell? (ad.add (i.toNat * 10)) = some (.int .i64 (rd_T31 xs i).f0) ∧ w.cell? ⟨(ad.add (i.toNat * 10)).block, (ad.add (i.toNat * 10)).off + 1, none⟩ = some (.int .i64 (rd_T31 xs i).f1.f0) ∧ w.cell? ⟨(ad.add (i.toNat * 10)).block, (ad.add (i.toNat * 10)).off + 2, none⟩ = some (.int .i64 (rd_T31 xs i).f1.f1) ∧ w.cell? ⟨(ad.add (i.toNat * 10)).block, (ad.add (i.toNat * 10)).off + 3, none⟩ = some (.string (rd_T31 xs i).f1.f2) ∧ w.cell? ⟨(ad.add (i.toNat * 10)).block, (ad.add (i.toNat * 10)).off + 4, none⟩ = some (.int .i64 (rd_T31 xs i).f2.f0.f0) ∧ w.cell? ⟨(ad.add (i.toNat * 10)).block, (ad.add (i.toNat * 10)).off + 5, none⟩ = some (.int .i64 (rd_T31 xs i).f2.f0.f1) ∧ w.cell? ⟨(ad.add (i.toNat * 10)).block, (ad.add (i.toNat * 10)).off + 6, none⟩ = some (.int .i64 (rd_T31 xs i).f2.f1.f0) ∧ w.cell? ⟨(ad.add (i.toNat * 10)).block, (ad.add (i.toNat * 10)).off + 7, none⟩ = some (.int .i64 (rd_T31 xs i).f2.f1.f1) ∧ w.cell? ⟨(ad.add (i.toNat * 10)).block, (ad.add (i.toNat * 10)).off + 8, none⟩ = some (.string (rd_T31 xs i).f3) ∧ w.cell? ⟨(ad.add (i.toNat * 10)).block, (ad.add (i.toNat * 10)).off + 9, none⟩ = some (.slice A9 (rd_T31 xs i).f4.length c9) ∧ (rd_T31 xs i).f4.length ≤ c9 ∧ k31.C w A9 (rd_T31 xs i).f4.length (rd_T31 xs i).f4 := by
  obtain ⟨ad, c, e, _, hK, hc0⟩ := Kd.C_get h z31 i h0 h1
  have hc : ∀ j u, c[j]? = some u → w.cell? (ad.add (i.toNat * 10 + j)) = some u := hc0
  obtain ⟨A9, c9, rfl, l9, g9⟩ := k31_open hK
  exact ⟨ad, A9, c9, e, hc 0 _ rfl, by rw [← add_field _ _ 1 (by omega)]; exact hc 1 _ rfl, by rw [← add_field _ _ 2 (by omega)]; exact hc 2 _ rfl, by rw [← add_field _ _ 3 (by omega)]; exact hc 3 _ rfl, by rw [← add_field _ _ 4 (by omega)]; exact hc 4 _ rfl, by rw [← add_field _ _ 5 (by omega)]; exact hc 5 _ rfl, by rw [← add_field _ _ 6 (by omega)]; exact hc 6 _ rfl, by rw [← add_field _ _ 7 (by omega)]; exact hc 7 _ rfl, by rw [← add_field _ _ 8 (by omega)]; exact hc 8 _ rfl, by rw [← add_field _ _ 9 (by omega)]; exact hc 9 _ rfl, l9, g9⟩
end Go.Proofs.YtnomfbmebafolaaGreatDoor.P

namespace Go.Proofs.YtnomfbmebafolaaGreatDoor.P
open Go.RowKit Go.Proofs.YtnomfbmebafolaaGreatDoorW.PrintWords Go.Proofs.YtnomfbmebafolaaGreatDoorW.PrintLast Go.Proofs.YtnomfbmebafolaaGreatDoorW.PrintMore
class ZOne (W : World) (v : outParam World) : Prop where
  b : Below v.heap.size v W
instance zOneDrew (w : World) : ZOne w.drew w := ⟨(Below.refl _ w).drew⟩
instance zOneDrewN (w : World) (n : Nat) : ZOne (w.drewN n) w := ⟨pw_below_drewN (Below.refl _ w) n⟩
instance zOneAlloc (w : World) (o : Obj) : ZOne (w.alloc o) w := ⟨below_alloc (Below.refl _ w) o⟩
class ZAll (W : World) (v : outParam World) : Prop where
  b : Below v.heap.size v W
instance (priority := low) zAllRefl (w : World) : ZAll w w := ⟨Below.refl _ w⟩
instance zAllDrew (w v : World) [h : ZAll w v] : ZAll w.drew v := ⟨h.b.drew⟩
instance zAllDrewN (w v : World) (n : Nat) [h : ZAll w v] : ZAll (w.drewN n) v := ⟨pw_below_drewN h.b n⟩
instance zAllAlloc (w v : World) (o : Obj) [h : ZAll w v] : ZAll (w.alloc o) v := ⟨below_alloc h.b o⟩
theorem zB {W v : World} [z : ZAll W v] {g : Nat} {o : Obj} (h : v.heap[g]? = some o) : W.heap[g]? = some o := blk_below h z.b
theorem zz1 {p : Prop} (h : p := by repeat first | with_reducible exact HB.out | apply zS | exact HB.out) : p := h
theorem zz2 {p : Prop} (h : p := by repeat first | with_reducible exact HB.out | apply zS | refine below_set ?_ GE133.out | exact HB.out) : p := h
theorem zz3 {p : Prop} (h : p := by repeat first | with_reducible exact HB.out | apply zS | refine below_set ?_ GE126.out | exact HB.out) : p := h
theorem zz4 {p : Prop} (h : p := by repeat first | with_reducible exact HB.out | apply zS | refine below_set ?_ GE113.out | exact HB.out) : p := h
theorem zz5 {p : Prop} (h : p := by repeat first | with_reducible exact HB.out | apply zS | refine below_set ?_ GE123.out | exact HB.out) : p := h
theorem zz6 {p : Prop} (h : p := by repeat first | with_reducible exact HB.out | apply zS | refine below_set ?_ GE128.out | exact HB.out) : p := h
theorem zz7 {p : Prop} (h : p := by repeat first | with_reducible exact HB.out | apply zS | refine below_set ?_ GE176.out | exact HB.out) : p := h
theorem zz8 {p : Prop} (h : p := by repeat first | with_reducible exact HB.out | apply zS | refine below_set ?_ GE180.out | refine below_set ?_ GE181.out | exact HB.out) : p := h
theorem zz9 {p : Prop} (h : p := by repeat first | with_reducible exact HB.out | apply zS | refine below_set ?_ GE305.out | exact HB.out) : p := h
theorem zz10 {p : Prop} (h : p := by repeat first | with_reducible exact HB.out | apply zS | refine below_set ?_ GE167.out | refine below_set ?_ GE168.out | refine below_set ?_ GE169.out | exact HB.out) : p := h
theorem zz11 {p : Prop} (h : p := by repeat first | with_reducible exact HB.out | apply zS | refine below_set ?_ GE185.out | exact HB.out) : p := h
theorem zz12 {p : Prop} (h : p := by repeat first | with_reducible exact HB.out | apply zS | refine below_set ?_ GE167.out | exact HB.out) : p := h
theorem zz13 {p : Prop} (h : p := by repeat first | with_reducible exact HB.out | apply zS | refine below_set ?_ GE167.out | refine below_set ?_ GE168.out | exact HB.out) : p := h
theorem zz14 {p : Prop} (h : p := by repeat first | with_reducible exact HB.out | apply zS | refine below_set ?_ GE124.out | exact HB.out) : p := h
theorem zz15 {p : Prop} (h : p := by repeat first | with_reducible exact HB.out | apply zS | refine below_set ?_ GE180.out | exact HB.out) : p := h
theorem zz16 {p : Prop} (h : p := by repeat first | with_reducible exact HB.out | apply zS | refine below_set ?_ GE156.out | refine below_set ?_ GE157.out | refine below_set ?_ GE158.out | exact HB.out) : p := h
theorem zz17 {p : Prop} (h : p := by repeat first | with_reducible exact HB.out | apply zS | refine below_set ?_ GE112.out | exact HB.out) : p := h
theorem zz18 {p : Prop} (h : p := by repeat first | with_reducible exact HB.out | apply zS | refine below_set ?_ GE108.out | exact HB.out) : p := h
theorem zz19 {p : Prop} (h : p := by repeat first | with_reducible exact HB.out | apply zS | refine below_set ?_ GE172.out | exact HB.out) : p := h
theorem zz20 {p : Prop} (h : p := by repeat first | with_reducible exact HB.out | apply zS | refine below_set ?_ GE212.out | exact HB.out) : p := h
theorem zz21 {p : Prop} (h : p := by repeat first | with_reducible exact HB.out | apply zS | refine below_set ?_ GE162.out | exact HB.out) : p := h
theorem zz22 {p : Prop} (h : p := by repeat first | with_reducible exact HB.out | apply zS | refine below_set ?_ GE163.out | exact HB.out) : p := h
theorem zz23 {p : Prop} (h : p := by repeat first | with_reducible exact HB.out | apply zS | refine below_set ?_ GE172.out | refine below_set ?_ GE174.out | exact HB.out) : p := h
theorem zz24 {p : Prop} (h : p := by repeat first | with_reducible exact HB.out | apply zS | refine below_set ?_ GE124.out | refine below_set ?_ GE125.out | exact HB.out) : p := h
theorem zz25 {p : Prop} (h : p := by (try simp only [List.map_toArray, List.map_cons, List.map_nil]); first | done | rfl | (simp only [List.length_drop, List.length_take]; rfl)) : p := h
theorem zz26 {p : Prop} (h : p := by first | rfl | (simp [errW_none, errW_some] <;> rfl) | (simp [*, errW_none, errW_some] <;> rfl)) : p := h
theorem zz27 {p : Prop} (h : p := by first | rfl | (simp; done) | (simp [*]; done)) : p := h
theorem zS {W v w : World} [z : ZOne W v] (h : Below w.heap.size w v) : Below w.heap.size w W := below_step h z.b
section
variable {w : World} {g : Nat} {t : TypeId} {a0 a1 a2 a3 a4 a5 a6 a7 a8 a9 : Value}
theorem zC2 (h : w.heap[g]? = some (.cells #[a0, a1] t (0, 0))) : w.cell? ⟨g, 0, none⟩ = some a0 ∧ w.cell? ⟨g, 1, none⟩ = some a1 ∧ w.frozen? ⟨g, 0, none⟩ = false ∧ w.frozen? ⟨g, 1, none⟩ = false := ⟨(blk_cell h 0).trans rfl, (blk_cell h 1).trans rfl, blk_frozen h 0, blk_frozen h 1⟩
theorem zC3 (h : w.heap[g]? = some (.cells #[a0, a1, a2] t (0, 0))) : w.cell? ⟨g, 0, none⟩ = some a0 ∧ w.cell? ⟨g, 1, none⟩ = some a1 ∧ w.cell? ⟨g, 2, none⟩ = some a2 ∧ w.frozen? ⟨g, 0, none⟩ = false ∧ w.frozen? ⟨g, 1, none⟩ = false ∧ w.frozen? ⟨g, 2, none⟩ = false := ⟨(blk_cell h 0).trans rfl, (blk_cell h 1).trans rfl, (blk_cell h 2).trans rfl, blk_frozen h 0, blk_frozen h 1, blk_frozen h 2⟩
theorem zC4 (h : w.heap[g]? = some (.cells #[a0, a1, a2, a3] t (0, 0))) : w.cell? ⟨g, 0, none⟩ = some a0 ∧ w.cell? ⟨g, 1, none⟩ = some a1 ∧ w.cell? ⟨g, 2, none⟩ = some a2 ∧ w.cell? ⟨g, 3, none⟩ = some a3 ∧ w.frozen? ⟨g, 0, none⟩ = false ∧ w.frozen? ⟨g, 1, none⟩ = false ∧ w.frozen? ⟨g, 2, none⟩ = false ∧ w.frozen? ⟨g, 3, none⟩ = false := ⟨(blk_cell h 0).trans rfl, (blk_cell h 1).trans rfl, (blk_cell h 2).trans rfl, (blk_cell h 3).trans rfl, blk_frozen h 0, blk_frozen h 1, blk_frozen h 2, blk_frozen h 3⟩
theorem zC10 (h : w.heap[g]? = some (.cells #[a0, a1, a2, a3, a4, a5, a6, a7, a8, a9] t (0, 0))) : w.cell? ⟨g, 0, none⟩ = some a0 ∧ w.cell? ⟨g, 1, none⟩ = some a1 ∧ w.cell? ⟨g, 2, none⟩ = some a2 ∧ w.cell? ⟨g, 3, none⟩ = some a3 ∧ w.cell? ⟨g, 4, none⟩ = some a4 ∧ w.cell? ⟨g, 5, none⟩ = some a5 ∧ w.cell? ⟨g, 6, none⟩ = some a6 ∧ w.cell? ⟨g, 7, none⟩ = some a7 ∧ w.cell? ⟨g, 8, none⟩ = some a8 ∧ w.cell? ⟨g, 9, none⟩ = some a9 ∧ w.frozen? ⟨g, 0, none⟩ = false ∧ w.frozen? ⟨g, 1, none⟩ = false ∧ w.frozen? ⟨g, 2, none⟩ = false ∧ w.frozen? ⟨g, 3, none⟩ = false ∧ w.frozen? ⟨g, 4, none⟩ = false ∧ w.frozen? ⟨g, 5, none⟩ = false ∧ w.frozen? ⟨g, 6, none⟩ = false ∧ w.frozen? ⟨g, 7, none⟩ = false ∧ w.frozen? ⟨g, 8, none⟩ = false ∧ w.frozen? ⟨g, 9, none⟩ = false := ⟨(blk_cell h 0).trans rfl, (blk_cell h 1).trans rfl, (blk_cell h 2).trans rfl, (blk_cell h 3).trans rfl, (blk_cell h 4).trans rfl, (blk_cell h 5).trans rfl, (blk_cell h 6).trans rfl, (blk_cell h 7).trans rfl, (blk_cell h 8).trans rfl, (blk_cell h 9).trans rfl, blk_frozen h 0, blk_frozen h 1, blk_frozen h 2, blk_frozen h 3, blk_frozen h 4, blk_frozen h 5, blk_frozen h 6, blk_frozen h 7, blk_frozen h 8, blk_frozen h 9⟩
end
end Go.Proofs.YtnomfbmebafolaaGreatDoor.P

namespace Go.Proofs
open Go.Shelf
def Tryz.lays169_ren : Go.Shelf.Ren := ⟨fun | 169 => 13 | n => n, fun | 70 => 46 | 9 => 9 | 0 => 0 | 72 => 48 | 37 => 35 | 127 => 75 | 3 => 3 | 5 => 5 | n => n, fun | n => n⟩
theorem Tryz.lays169 : Go.Proofs.Lays.n169 Tryz.prog Tryz.lays169_ren := {
  mixed := by kernel_rfl
  f169 := Tryz.func13.trans (congrArg some (by kernel_rfl))
  t0 := Tryz.underlying0
  a0 := Tryz.isAgg0
  z0 := Tryz.sizeOf0
  v0 := Tryz.zeroValue0
  t3 := Tryz.underlying3
  a3 := Tryz.isAgg3
  z3 := Tryz.sizeOf3
  v3 := Tryz.zeroValue3
  t9 := Tryz.underlying9
  a9 := Tryz.isAgg9
  z9 := Tryz.sizeOf9
  v9 := Tryz.zeroValue9
  t37 := Tryz.underlying35
  a37 := Tryz.isAgg35
  z37 := Tryz.sizeOf35
  v37 := Tryz.zeroValue35
  t70 := Tryz.underlying46
  a70 := Tryz.isAgg46
  z70 := Tryz.sizeOf46
  v70 := Tryz.zeroValue46
  t72 := Tryz.underlying48
  a72 := Tryz.isAgg48
  z72 := Tryz.sizeOf48
  v72 := Tryz.zeroValue48
  t127 := Tryz.underlying75
  a127 := Tryz.isAgg75
  z127 := Tryz.sizeOf75
  v127 := Tryz.zeroValue75 }
theorem Tryz.Builder_Extra_169 : Builder.Extra Tryz.prog Tryz.lays169_ren := {
  sizeBuilder := by kernel_rfl
  liesBuilder := by kernel_rfl
  t5 := Tryz.underlying5
  a5 := Tryz.isAgg5
  z5 := Tryz.sizeOf5
  v5 := Tryz.zeroValue5
  infoByte := by kernel_rfl
  cellsByte := by kernel_rfl
  sizeByte := by kernel_rfl
  neB5 := by decide }
open Go.RowKit in
theorem Tryz.Builder_String_any (B b : Nat) (l : List UInt8) (w : World) (h : Lib.IsBuilder 48 5 B b (Lib.byteCells l) w) (hBw : B ≤ w.heap.size) :
    Calls Tryz.prog 13 #[.pointer (some ⟨b, 0, none⟩)] w fun e w' => e = .returned (.string ⟨l.toArray⟩) ∧ Below B w w' := Any.Builder_String_any Tryz.lays169 Tryz.Builder_Extra_169 B b l w h hBw
def Tryz.lays137_ren : Go.Shelf.Ren := ⟨fun | 137 => 85 | 217 => 107 | 266 => 124 | n => n, fun | 9 => 9 | 5 => 5 | 3 => 3 | n => n, fun | n => n⟩
theorem Tryz.lays137 : Go.Proofs.Lays.n137 Tryz.prog Tryz.lays137_ren := {
  mixed := by kernel_rfl
  f137 := Tryz.func85.trans (congrArg some (by kernel_rfl))
  f217 := Tryz.func107.trans (congrArg some (by kernel_rfl))
  f266 := Tryz.func124.trans (congrArg some (by kernel_rfl))
  t3 := Tryz.underlying3
  a3 := Tryz.isAgg3
  z3 := Tryz.sizeOf3
  v3 := Tryz.zeroValue3
  t5 := Tryz.underlying5
  a5 := Tryz.isAgg5
  z5 := Tryz.sizeOf5
  v5 := Tryz.zeroValue5
  t9 := Tryz.underlying9
  a9 := Tryz.isAgg9
  z9 := Tryz.sizeOf9
  v9 := Tryz.zeroValue9 }
open Go.RowKit in
theorem Tryz.strings_IndexByte (s : ByteArray) (c : Int) (w : World) :
    Calls Tryz.prog 85 #[.string s, .int .u8 c] w fun e w' => e = .returned (.int .i64 (Lib.indexByte s.data.toList c.toNat.toUInt8)) ∧ w' = w := Any.strings_IndexByte Tryz.lays137 s c w
def Tryz.laysM171_ren : Go.Shelf.Ren := ⟨fun | 171 => 49 | 243 => 70 | 246 => 80 | 283 => 94 | 284 => 95 | 285 => 96 | 286 => 97 | 129 => 111 | 317 => 110 | 318 => 112 | 319 => 113 | 320 => 114 | 337 => 126 | 338 => 127 | n => n, fun | 3 => 3 | 9 => 9 | 2 => 2 | 4 => 4 | 171 => 168 | 0 => 0 | 53 => 169 | 37 => 35 | 5 => 5 | 173 => 172 | 212 => 188 | 51 => 189 | 20 => 20 | 213 => 190 | 46 => 177 | 232 => 205 | 233 => 206 | n => n, fun | 17 => 2 | 18 => 8 | 19 => 9 | n => n⟩
theorem Tryz.laysM171 : Go.Proofs.LaysM.n171 Tryz.prog Tryz.laysM171_ren := {
  mixed := by kernel_rfl
  f129 := Tryz.func111.trans (congrArg some (by kernel_rfl))
  f171 := Tryz.func49.trans (congrArg some (by kernel_rfl))
  f243 := Tryz.func70.trans (congrArg some (by kernel_rfl))
  f246 := Tryz.func80.trans (congrArg some (by kernel_rfl))
  f283 := Tryz.func94.trans (congrArg some (by kernel_rfl))
  f284 := Tryz.func95.trans (congrArg some (by kernel_rfl))
  f285 := Tryz.func96.trans (congrArg some (by kernel_rfl))
  f286 := Tryz.func97.trans (congrArg some (by kernel_rfl))
  f317 := Tryz.func110.trans (congrArg some (by kernel_rfl))
  f318 := Tryz.func112.trans (congrArg some (by kernel_rfl))
  f319 := Tryz.func113.trans (congrArg some (by kernel_rfl))
  f320 := Tryz.func114.trans (congrArg some (by kernel_rfl))
  f337 := Tryz.func126.trans (congrArg some (by kernel_rfl))
  f338 := Tryz.func127.trans (congrArg some (by kernel_rfl))
  t0 := Tryz.underlying0
  a0 := Tryz.isAgg0
  z0 := Tryz.sizeOf0
  v0 := Tryz.zeroValue0
  t2 := Tryz.underlying2
  a2 := Tryz.isAgg2
  z2 := Tryz.sizeOf2
  v2 := Tryz.zeroValue2
  t3 := Tryz.underlying3
  a3 := Tryz.isAgg3
  z3 := Tryz.sizeOf3
  v3 := Tryz.zeroValue3
  t4 := Tryz.underlying4
  a4 := Tryz.isAgg4
  z4 := Tryz.sizeOf4
  v4 := Tryz.zeroValue4
  t5 := Tryz.underlying5
  a5 := Tryz.isAgg5
  z5 := Tryz.sizeOf5
  v5 := Tryz.zeroValue5
  t9 := Tryz.underlying9
  a9 := Tryz.isAgg9
  z9 := Tryz.sizeOf9
  v9 := Tryz.zeroValue9
  t20 := Tryz.underlying20
  a20 := Tryz.isAgg20
  z20 := Tryz.sizeOf20
  v20 := Tryz.zeroValue20
  t37 := Tryz.underlying35
  a37 := Tryz.isAgg35
  z37 := Tryz.sizeOf35
  v37 := Tryz.zeroValue35
  t46 := Tryz.underlying177
  a46 := Tryz.isAgg177
  z46 := Tryz.sizeOf177
  v46 := Tryz.zeroValue177
  t51 := Tryz.underlying189
  a51 := Tryz.isAgg189
  z51 := Tryz.sizeOf189
  v51 := Tryz.zeroValue189
  t53 := Tryz.underlying169
  a53 := Tryz.isAgg169
  z53 := Tryz.sizeOf169
  v53 := Tryz.zeroValue169
  t171 := Tryz.underlying168
  a171 := Tryz.isAgg168
  z171 := Tryz.sizeOf168
  v171 := Tryz.zeroValue168
  t173 := Tryz.underlying172
  a173 := Tryz.isAgg172
  z173 := Tryz.sizeOf172
  v173 := Tryz.zeroValue172
  t212 := Tryz.underlying188
  a212 := Tryz.isAgg188
  z212 := Tryz.sizeOf188
  v212 := Tryz.zeroValue188
  t213 := Tryz.underlying190
  a213 := Tryz.isAgg190
  z213 := Tryz.sizeOf190
  t232 := Tryz.underlying205
  a232 := Tryz.isAgg205
  z232 := Tryz.sizeOf205
  v232 := Tryz.zeroValue205
  t233 := Tryz.underlying206
  a233 := Tryz.isAgg206
  z233 := Tryz.sizeOf206
  v233 := Tryz.zeroValue206
  g17 := by kernel_rfl
  g18 := by kernel_rfl
  g19 := by kernel_rfl
  i0 := by kernel_rfl
  i2 := by kernel_rfl
  i3 := by kernel_rfl
  i4 := by kernel_rfl
  i5 := by kernel_rfl
  i9 := by kernel_rfl
  i20 := by kernel_rfl
  i37 := by kernel_rfl
  i46 := by kernel_rfl
  i51 := by kernel_rfl
  i53 := by kernel_rfl
  i171 := by kernel_rfl
  i173 := by kernel_rfl
  i212 := by kernel_rfl
  i232 := by kernel_rfl
  i233 := by kernel_rfl
  m17 := by kernel_rfl
  m18 := by kernel_rfl
  m19 := by kernel_rfl }
open Go.RowKit Go.Sort Go.Lib in
theorem Tryz.strconv_Itoa (n : Int) (h0 : -9223372036854775808 ≤ n) (h1 : n ≤ 9223372036854775807) (w : World) (htab : Lib.TabIs Tryz.prog w "internal/strconv.uint64pow10" .u64 Lib.pow10Tab) :
    Calls Tryz.prog 49 #[.int .i64 n] w fun e w' => e = .returned (.string ⟨(Lib.itoa n).toArray⟩) ∧ ∃ k os, w' = grow (w.drewN k) os := Any.strconv_Itoa Tryz.laysM171 n h0 h1 w htab
def Tryz.laysM173_ren : Go.Shelf.Ren := ⟨fun | 173 => 58 | 246 => 80 | 283 => 94 | 284 => 95 | 285 => 96 | 286 => 97 | 129 => 111 | 317 => 110 | 318 => 112 | 319 => 113 | 320 => 114 | 337 => 126 | 338 => 127 | n => n, fun | 2 => 2 | 3 => 3 | 9 => 9 | 4 => 4 | 171 => 168 | 0 => 0 | 53 => 169 | 37 => 35 | 5 => 5 | 173 => 172 | 212 => 188 | 51 => 189 | 20 => 20 | 213 => 190 | 46 => 177 | 232 => 205 | 233 => 206 | n => n, fun | 17 => 2 | 18 => 8 | 19 => 9 | n => n⟩
theorem Tryz.laysM173 : Go.Proofs.LaysM.n173 Tryz.prog Tryz.laysM173_ren := {
  mixed := by kernel_rfl
  f129 := Tryz.func111.trans (congrArg some (by kernel_rfl))
  f173 := Tryz.func58.trans (congrArg some (by kernel_rfl))
  f246 := Tryz.func80.trans (congrArg some (by kernel_rfl))
  f283 := Tryz.func94.trans (congrArg some (by kernel_rfl))
  f284 := Tryz.func95.trans (congrArg some (by kernel_rfl))
  f285 := Tryz.func96.trans (congrArg some (by kernel_rfl))
  f286 := Tryz.func97.trans (congrArg some (by kernel_rfl))
  f317 := Tryz.func110.trans (congrArg some (by kernel_rfl))
  f318 := Tryz.func112.trans (congrArg some (by kernel_rfl))
  f319 := Tryz.func113.trans (congrArg some (by kernel_rfl))
  f320 := Tryz.func114.trans (congrArg some (by kernel_rfl))
  f337 := Tryz.func126.trans (congrArg some (by kernel_rfl))
  f338 := Tryz.func127.trans (congrArg some (by kernel_rfl))
  t0 := Tryz.underlying0
  a0 := Tryz.isAgg0
  z0 := Tryz.sizeOf0
  v0 := Tryz.zeroValue0
  t2 := Tryz.underlying2
  a2 := Tryz.isAgg2
  z2 := Tryz.sizeOf2
  v2 := Tryz.zeroValue2
  t3 := Tryz.underlying3
  a3 := Tryz.isAgg3
  z3 := Tryz.sizeOf3
  v3 := Tryz.zeroValue3
  t4 := Tryz.underlying4
  a4 := Tryz.isAgg4
  z4 := Tryz.sizeOf4
  v4 := Tryz.zeroValue4
  t5 := Tryz.underlying5
  a5 := Tryz.isAgg5
  z5 := Tryz.sizeOf5
  v5 := Tryz.zeroValue5
  t9 := Tryz.underlying9
  a9 := Tryz.isAgg9
  z9 := Tryz.sizeOf9
  v9 := Tryz.zeroValue9
  t20 := Tryz.underlying20
  a20 := Tryz.isAgg20
  z20 := Tryz.sizeOf20
  v20 := Tryz.zeroValue20
  t37 := Tryz.underlying35
  a37 := Tryz.isAgg35
  z37 := Tryz.sizeOf35
  v37 := Tryz.zeroValue35
  t46 := Tryz.underlying177
  a46 := Tryz.isAgg177
  z46 := Tryz.sizeOf177
  v46 := Tryz.zeroValue177
  t51 := Tryz.underlying189
  a51 := Tryz.isAgg189
  z51 := Tryz.sizeOf189
  v51 := Tryz.zeroValue189
  t53 := Tryz.underlying169
  a53 := Tryz.isAgg169
  z53 := Tryz.sizeOf169
  v53 := Tryz.zeroValue169
  t171 := Tryz.underlying168
  a171 := Tryz.isAgg168
  z171 := Tryz.sizeOf168
  v171 := Tryz.zeroValue168
  t173 := Tryz.underlying172
  a173 := Tryz.isAgg172
  z173 := Tryz.sizeOf172
  v173 := Tryz.zeroValue172
  t212 := Tryz.underlying188
  a212 := Tryz.isAgg188
  z212 := Tryz.sizeOf188
  v212 := Tryz.zeroValue188
  t213 := Tryz.underlying190
  a213 := Tryz.isAgg190
  z213 := Tryz.sizeOf190
  t232 := Tryz.underlying205
  a232 := Tryz.isAgg205
  z232 := Tryz.sizeOf205
  v232 := Tryz.zeroValue205
  t233 := Tryz.underlying206
  a233 := Tryz.isAgg206
  z233 := Tryz.sizeOf206
  v233 := Tryz.zeroValue206
  g17 := by kernel_rfl
  g18 := by kernel_rfl
  g19 := by kernel_rfl
  i0 := by kernel_rfl
  i2 := by kernel_rfl
  i3 := by kernel_rfl
  i4 := by kernel_rfl
  i5 := by kernel_rfl
  i9 := by kernel_rfl
  i20 := by kernel_rfl
  i37 := by kernel_rfl
  i46 := by kernel_rfl
  i51 := by kernel_rfl
  i53 := by kernel_rfl
  i171 := by kernel_rfl
  i173 := by kernel_rfl
  i212 := by kernel_rfl
  i232 := by kernel_rfl
  i233 := by kernel_rfl
  m17 := by kernel_rfl
  m18 := by kernel_rfl
  m19 := by kernel_rfl }
open Go.RowKit Go.Sort Go.Lib in
theorem Tryz.strconv_FormatInt_10 (n : Int) (h0 : -9223372036854775808 ≤ n) (h1 : n ≤ 9223372036854775807) (w : World) (htab : Lib.TabIs Tryz.prog w "internal/strconv.uint64pow10" .u64 Lib.pow10Tab) :
    Calls Tryz.prog 58 #[.int .i64 n, .int .i64 10] w fun e w' => e = .returned (.string ⟨(Lib.itoa n).toArray⟩) ∧ ∃ k os, w' = grow (w.drewN k) os := Any.strconv_FormatInt_10 Tryz.laysM173 n h0 h1 w htab
def Tryz.laysC174_ren : Go.Shelf.Ren := ⟨fun | 174 => 59 | 247 => 81 | 245 => 82 | 287 => 98 | 279 => 99 | 280 => 100 | 281 => 101 | 282 => 102 | 321 => 115 | 322 => 116 | 316 => 117 | 171 => 49 | 205 => 118 | 243 => 70 | 246 => 80 | 283 => 94 | 284 => 95 | 285 => 96 | 286 => 97 | 129 => 111 | 317 => 110 | 318 => 112 | 319 => 113 | 320 => 114 | 337 => 126 | 338 => 127 | n => n, fun | 9 => 9 | 3 => 3 | 2 => 2 | 75 => 64 | 85 => 123 | 4 => 4 | 167 => 174 | 5 => 5 | 53 => 169 | 175 => 175 | 46 => 177 | 168 => 178 | 37 => 35 | 0 => 0 | 210 => 194 | 21 => 21 | 127 => 75 | 145 => 199 | 143 => 197 | 171 => 168 | 173 => 172 | 212 => 188 | 51 => 189 | 20 => 20 | 213 => 190 | 232 => 205 | 233 => 206 | 80 => 53 | n => n, fun | 15 => 3 | 16 => 4 | 17 => 2 | 18 => 8 | 19 => 9 | n => n⟩
theorem Tryz.laysC174 : Go.Proofs.LaysC.n174 Tryz.prog Tryz.laysC174_ren := {
  mixed := by kernel_rfl
  f129 := Tryz.func111.trans (congrArg some (by kernel_rfl))
  f171 := Tryz.func49.trans (congrArg some (by kernel_rfl))
  f174 := Tryz.func59.trans (congrArg some (by kernel_rfl))
  f205 := Tryz.func118.trans (congrArg some (by kernel_rfl))
  f243 := Tryz.func70.trans (congrArg some (by kernel_rfl))
  f245 := Tryz.func82.trans (congrArg some (by kernel_rfl))
  f246 := Tryz.func80.trans (congrArg some (by kernel_rfl))
  f247 := Tryz.func81.trans (congrArg some (by kernel_rfl))
  f279 := Tryz.func99.trans (congrArg some (by kernel_rfl))
  f280 := Tryz.func100.trans (congrArg some (by kernel_rfl))
  f281 := Tryz.func101.trans (congrArg some (by kernel_rfl))
  f282 := Tryz.func102.trans (congrArg some (by kernel_rfl))
  f283 := Tryz.func94.trans (congrArg some (by kernel_rfl))
  f284 := Tryz.func95.trans (congrArg some (by kernel_rfl))
  f285 := Tryz.func96.trans (congrArg some (by kernel_rfl))
  f286 := Tryz.func97.trans (congrArg some (by kernel_rfl))
  f287 := Tryz.func98.trans (congrArg some (by kernel_rfl))
  f316 := Tryz.func117.trans (congrArg some (by kernel_rfl))
  f317 := Tryz.func110.trans (congrArg some (by kernel_rfl))
  f318 := Tryz.func112.trans (congrArg some (by kernel_rfl))
  f319 := Tryz.func113.trans (congrArg some (by kernel_rfl))
  f320 := Tryz.func114.trans (congrArg some (by kernel_rfl))
  f321 := Tryz.func115.trans (congrArg some (by kernel_rfl))
  f322 := Tryz.func116.trans (congrArg some (by kernel_rfl))
  f337 := Tryz.func126.trans (congrArg some (by kernel_rfl))
  f338 := Tryz.func127.trans (congrArg some (by kernel_rfl))
  t0 := Tryz.underlying0
  a0 := Tryz.isAgg0
  z0 := Tryz.sizeOf0
  v0 := Tryz.zeroValue0
  t2 := Tryz.underlying2
  a2 := Tryz.isAgg2
  z2 := Tryz.sizeOf2
  v2 := Tryz.zeroValue2
  t3 := Tryz.underlying3
  a3 := Tryz.isAgg3
  z3 := Tryz.sizeOf3
  v3 := Tryz.zeroValue3
  t4 := Tryz.underlying4
  a4 := Tryz.isAgg4
  z4 := Tryz.sizeOf4
  v4 := Tryz.zeroValue4
  t5 := Tryz.underlying5
  a5 := Tryz.isAgg5
  z5 := Tryz.sizeOf5
  v5 := Tryz.zeroValue5
  t9 := Tryz.underlying9
  a9 := Tryz.isAgg9
  z9 := Tryz.sizeOf9
  v9 := Tryz.zeroValue9
  t20 := Tryz.underlying20
  a20 := Tryz.isAgg20
  z20 := Tryz.sizeOf20
  v20 := Tryz.zeroValue20
  t21 := Tryz.underlying21
  a21 := Tryz.isAgg21
  z21 := Tryz.sizeOf21
  v21 := Tryz.zeroValue21
  t37 := Tryz.underlying35
  a37 := Tryz.isAgg35
  z37 := Tryz.sizeOf35
  v37 := Tryz.zeroValue35
  t46 := Tryz.underlying177
  a46 := Tryz.isAgg177
  z46 := Tryz.sizeOf177
  v46 := Tryz.zeroValue177
  t51 := Tryz.underlying189
  a51 := Tryz.isAgg189
  z51 := Tryz.sizeOf189
  v51 := Tryz.zeroValue189
  t53 := Tryz.underlying169
  a53 := Tryz.isAgg169
  z53 := Tryz.sizeOf169
  v53 := Tryz.zeroValue169
  t75 := Tryz.underlying64
  a75 := Tryz.isAgg64
  z75 := Tryz.sizeOf64
  v75 := Tryz.zeroValue64
  t85 := Tryz.underlying123
  a85 := Tryz.isAgg123
  z85 := Tryz.sizeOf123
  v85 := Tryz.zeroValue123
  t127 := Tryz.underlying75
  a127 := Tryz.isAgg75
  z127 := Tryz.sizeOf75
  v127 := Tryz.zeroValue75
  t143 := Tryz.underlying197
  a143 := Tryz.isAgg197
  z143 := Tryz.sizeOf197
  v143 := Tryz.zeroValue197
  t145 := Tryz.underlying199
  a145 := Tryz.isAgg199
  z145 := Tryz.sizeOf199
  v145 := Tryz.zeroValue199
  t167 := Tryz.underlying174
  a167 := Tryz.isAgg174
  z167 := Tryz.sizeOf174
  v167 := Tryz.zeroValue174
  t168 := Tryz.underlying178
  a168 := Tryz.isAgg178
  z168 := Tryz.sizeOf178
  v168 := Tryz.zeroValue178
  t171 := Tryz.underlying168
  a171 := Tryz.isAgg168
  z171 := Tryz.sizeOf168
  v171 := Tryz.zeroValue168
  t173 := Tryz.underlying172
  a173 := Tryz.isAgg172
  z173 := Tryz.sizeOf172
  v173 := Tryz.zeroValue172
  t175 := Tryz.underlying175
  a175 := Tryz.isAgg175
  z175 := Tryz.sizeOf175
  v175 := Tryz.zeroValue175
  t210 := Tryz.underlying194
  a210 := Tryz.isAgg194
  z210 := Tryz.sizeOf194
  v210 := Tryz.zeroValue194
  t212 := Tryz.underlying188
  a212 := Tryz.isAgg188
  z212 := Tryz.sizeOf188
  v212 := Tryz.zeroValue188
  t213 := Tryz.underlying190
  a213 := Tryz.isAgg190
  z213 := Tryz.sizeOf190
  t232 := Tryz.underlying205
  a232 := Tryz.isAgg205
  z232 := Tryz.sizeOf205
  v232 := Tryz.zeroValue205
  t233 := Tryz.underlying206
  a233 := Tryz.isAgg206
  z233 := Tryz.sizeOf206
  v233 := Tryz.zeroValue206
  g15 := by kernel_rfl
  g16 := by kernel_rfl
  g17 := by kernel_rfl
  g18 := by kernel_rfl
  g19 := by kernel_rfl
  t80 := Tryz.underlying53
  a80 := Tryz.isAgg53
  z80 := Tryz.sizeOf53
  v80 := Tryz.zeroValue53
  i0 := by kernel_rfl
  i2 := by kernel_rfl
  i3 := by kernel_rfl
  i4 := by kernel_rfl
  i5 := by kernel_rfl
  i9 := by kernel_rfl
  i20 := by kernel_rfl
  i21 := by kernel_rfl
  i37 := by kernel_rfl
  i46 := by kernel_rfl
  i51 := by kernel_rfl
  i53 := by kernel_rfl
  i75 := by kernel_rfl
  i80 := by kernel_rfl
  i85 := by kernel_rfl
  i127 := by kernel_rfl
  i143 := by kernel_rfl
  i145 := by kernel_rfl
  i167 := by kernel_rfl
  i168 := by kernel_rfl
  i171 := by kernel_rfl
  i173 := by kernel_rfl
  i175 := by kernel_rfl
  i210 := by kernel_rfl
  i212 := by kernel_rfl
  i232 := by kernel_rfl
  i233 := by kernel_rfl
  m15 := by kernel_rfl
  m16 := by kernel_rfl
  m17 := by kernel_rfl
  m18 := by kernel_rfl
  m19 := by kernel_rfl
  c0 := by kernel_rfl
  c2 := by kernel_rfl
  c3 := by kernel_rfl
  c4 := by kernel_rfl
  c5 := by kernel_rfl
  c9 := by kernel_rfl
  c20 := by kernel_rfl
  c21 := by kernel_rfl
  c37 := by kernel_rfl
  c46 := by kernel_rfl
  c51 := by kernel_rfl
  c53 := by kernel_rfl
  c75 := by kernel_rfl
  c80 := by kernel_rfl
  c85 := by kernel_rfl
  c127 := by kernel_rfl
  c143 := by kernel_rfl
  c145 := by kernel_rfl
  c167 := by kernel_rfl
  c168 := by kernel_rfl
  c171 := by kernel_rfl
  c173 := by kernel_rfl
  c175 := by kernel_rfl
  c210 := by kernel_rfl
  c212 := by kernel_rfl
  c213 := by kernel_rfl
  c232 := by kernel_rfl
  c233 := by kernel_rfl }
open Go.RowKit in
theorem Tryz.strconv_ParseInt_10_at64_ok (s : ByteArray) (hmax : s.size ≤ 9223372036854775806) (v : Int) (h : Lib.parseIntB 64 s.data.toList = .ok v) (w : World) :
    Calls Tryz.prog 59 #[.string s, .int .i64 10, .int .i64 64] w fun e w' => e = .returned (.tuple #[.int .i64 v, .nilIface]) ∧ (w' = w ∨ ∃ t, w' = Lib.bytesWorld w 5 t) := Any.strconv_ParseInt_10_at64_ok Tryz.laysC174 s hmax v h w
open Go.RowKit in
theorem Tryz.strconv_ParseInt_10_at64_range_var (s : ByteArray) (hlim : s.size ≤ 281474976710656) (h : Lib.parseIntB 64 s.data.toList = .range) (tp : TypeId) (p : Value) (w : World) (hvar : w.var? Tryz.prog "strconv.ErrRange" = some #[.iface tp p]) :
    Calls Tryz.prog 59 #[.string s, .int .i64 10, .int .i64 64] w fun e w' => ∃ N, e = .returned (.tuple #[.int .i64 (Lib.intSat 64 s.data.toList), .iface 178 (.pointer (some ⟨N, 0, none⟩))]) ∧ w.heap.size ≤ N ∧ w'.heap[N]? = some (.cells #[.string ⟨#[80, 97, 114, 115, 101, 73, 110, 116]⟩, .string s, .iface tp p] 194 (0, 0)) ∧ Below w.heap.size w w' := Any.strconv_ParseInt_10_at64_range_var Tryz.laysC174 s hlim h tp p w hvar
end Go.Proofs

namespace Go.Proofs.YtnomfbmebafolaaGreatDoor.M
open Go.RowKit
set_option linter.unusedVariables false
set_option linter.unusedSimpArgs false
def fit (n : Int) : Int × Bool := if -9223372036854775808 ≤ n ∧ n ≤ 9223372036854775807 then (n, true) else (0, false)
theorem u64w (n : Int) : IntKind.u64.wrap n = n % 18446744073709551616 := by simp [IntKind.wrap, IntKind.bits, IntKind.signed]
theorem i64wf {n : Int} (h : (Lit.int .i64 n).wf = true) : -9223372036854775808 ≤ n ∧ n ≤ 9223372036854775807 := by
  simp [Lit.wf, IntKind.min, IntKind.max, IntKind.signed, IntKind.bits] at h; omega
def dig : Nat → Nat → List UInt8
  | 0, _ => []
  | k + 1, u => if u < 10 then [UInt8.ofNat (48 + u)] else dig k (u / 10) ++ [UInt8.ofNat (48 + u % 10)]
theorem dig_eq : ∀ (k u : Nat), u < 10 ^ k → 0 < k → dig k u = Lib.decDigits u
  | 0, _, _, h => by omega
  | k + 1, u, h, _ => by
    rw [dig, Lib.decDigits]
    by_cases h1 : u < 10
    · rw [if_pos h1, dif_pos h1]
    · rw [if_neg h1, dif_neg h1]
      have hk : 0 < k := by
        rcases Nat.eq_zero_or_pos k with rfl | h
        · simp at h; omega
        · exact h
      rw [dig_eq k (u / 10) (by rw [Nat.pow_succ] at h; omega) hk]
def itoaF (n : Int) : List UInt8 := if n < 0 then 45 :: dig 20 n.natAbs else dig 20 n.toNat
theorem itoaF_eq (n : Int) (h0 : -9223372036854775808 ≤ n) (h1 : n ≤ 9223372036854775807) : itoaF n = Lib.itoa n := by
  unfold itoaF Lib.itoa
  by_cases h : n < 0
  · rw [if_pos h, if_pos h, dig_eq _ _ (by omega) (by omega)]
  · rw [if_neg h, if_neg h, dig_eq _ _ (by omega) (by omega)]
def val : Nat → List UInt8 → Nat
  | acc, [] => acc
  | acc, c :: r => val (acc * 10 + (c.toNat - 48)) r
theorem val_append : ∀ (l m : List UInt8) (acc : Nat), val acc (l ++ m) = val (val acc l) m
  | [], _, _ => rfl
  | _ :: r, m, _ => val_append r m _
theorem val_ge : ∀ (l : List UInt8) (acc : Nat), acc ≤ val acc l
  | [], _ => Nat.le_refl _
  | _ :: r, _ => Nat.le_trans (by omega) (val_ge r _)
theorem of_digit (d : Nat) (h : d < 10) : (UInt8.ofNat (48 + d)).toNat = 48 + d := by
  rw [UInt8.toNat_ofNat']; omega
theorem dig_digits : ∀ (k u : Nat), ∀ c ∈ dig k u, 48 ≤ c.toNat ∧ c.toNat ≤ 57
  | 0, _, c, h => by simp [dig] at h
  | k + 1, u, c, h => by
    rw [dig] at h
    split at h
    · simp only [List.mem_singleton] at h; subst h; rw [of_digit _ (by assumption)]; omega
    · rw [List.mem_append] at h
      rcases h with h | h
      · exact dig_digits k _ c h
      · simp only [List.mem_singleton] at h; subst h; rw [of_digit _ (Nat.mod_lt _ (by omega))]; omega
theorem val_dig : ∀ (k u : Nat), u < 10 ^ k → val 0 (dig k u) = u
  | 0, u, h => by simp at h; subst h; rfl
  | k + 1, u, h => by
    rw [dig]
    by_cases h1 : u < 10
    · rw [if_pos h1]
      have e := of_digit u h1
      clear h
      show 0 * 10 + ((UInt8.ofNat (48 + u)).toNat - 48) = u
      rw [e]; omega
    · have e := of_digit (u % 10) (Nat.mod_lt _ (by omega))
      have e2 := val_dig k (u / 10) (by rw [Nat.pow_succ] at h; omega)
      clear h
      rw [if_neg h1, val_append, e2]
      show u / 10 * 10 + ((UInt8.ofNat (48 + u % 10)).toNat - 48) = u
      rw [e]; omega
theorem dig_ne : ∀ (k u : Nat), 0 < k → dig k u ≠ []
  | 0, _, h => by omega
  | k + 1, u, _ => by rw [dig]; split <;> simp
theorem dig_length : ∀ (k u : Nat), (dig k u).length ≤ k
  | 0, _ => by simp [dig]
  | k + 1, u => by
    rw [dig]; split
    · simp
    · have := dig_length k (u / 10); simp; omega
theorem dig_head (k u : Nat) (c : UInt8) (r : List UInt8) (h : dig k u = c :: r) : 48 ≤ c.toNat ∧ c.toNat ≤ 57 :=
  dig_digits k u c (by rw [h]; simp)
theorem parseUintM_val : ∀ (l : List UInt8) (M acc : Nat), M < 18446744073709551616 → (∀ c ∈ l, 48 ≤ c.toNat ∧ c.toNat ≤ 57) → val acc l ≤ M → Lib.parseUintM M acc l = .ok (val acc l)
  | [], _, _, _, _, _ => rfl
  | c :: r, M, acc, hM, hd, hv => by
    have hc := hd c (by simp)
    have hg := val_ge r (acc * 10 + (c.toNat - 48))
    have hv' : val (acc * 10 + (c.toNat - 48)) r ≤ M := hv
    rw [Lib.parseUintM, if_pos hc, if_neg (by omega), if_neg (by omega)]
    exact parseUintM_val r M _ hM (fun x hx => hd x (by simp [hx])) hv'
theorem parse_itoa (n : Int) (h0 : -9223372036854775808 ≤ n) (h1 : n ≤ 9223372036854775807) : Lib.parseIntB 64 (itoaF n) = .ok n := by
  unfold itoaF
  by_cases h : n < 0
  · rw [if_pos h]
    have hp : n.natAbs < 10 ^ 20 := by omega
    have hv := val_dig 20 n.natAbs hp
    have hu := parseUintM_val (dig 20 n.natAbs) (2 ^ 64 - 1) 0 (by omega) (dig_digits _ _) (by rw [hv]; omega)
    rw [hv] at hu
    have hb : Lib.parseUintB 64 (dig 20 n.natAbs) = .ok n.natAbs := by
      unfold Lib.parseUintB; rw [if_neg (dig_ne _ _ (by omega))]; exact hu
    simp only [Lib.parseIntB]
    rw [if_pos (by decide), hb]
    simp only []
    rw [if_neg (by simp), if_neg (by simp; omega), if_pos (by decide)]
    congr 1; omega
  · rw [if_neg h]
    have hp : n.toNat < 10 ^ 20 := by omega
    have hv := val_dig 20 n.toNat hp
    have hu := parseUintM_val (dig 20 n.toNat) (2 ^ 64 - 1) 0 (by omega) (dig_digits _ _) (by rw [hv]; omega)
    rw [hv] at hu
    have hb : Lib.parseUintB 64 (dig 20 n.toNat) = .ok n.toNat := by
      unfold Lib.parseUintB; rw [if_neg (dig_ne _ _ (by omega))]; exact hu
    cases e : dig 20 n.toNat with
    | nil => exact absurd e (dig_ne _ _ (by omega))
    | cons c r =>
      have hc := dig_head _ _ _ _ e
      rw [← e]
      simp only [Lib.parseIntB]
      rw [e]
      simp only []
      rw [if_neg (by omega), ← e, hb]
      simp only []
      rw [if_neg (by omega), if_neg (by omega), if_neg (by omega)]
      congr 1; omega
def numParse (l : List UInt8) : Int × Bool :=
  match Lib.parseIntB 64 l with
  | .ok v => if itoaF v = l then (v, true) else (0, false)
  | _ => (0, false)
theorem numParse_itoa (n : Int) (h0 : -9223372036854775808 ≤ n) (h1 : n ≤ 9223372036854775807) : numParse (itoaF n) = (n, true) := by
  unfold numParse; rw [parse_itoa n h0 h1]; simp
theorem numParse_not {l : List UInt8} (h : ∀ v : Int, -9223372036854775808 ≤ v → v ≤ 9223372036854775807 → itoaF v ≠ l) : numParse l = (0, false) := by
  unfold numParse
  split
  · rename_i v hv
    have hb := Lib.parseIntB_bounds hv
    have e63 : ((2 ^ (64 - 1) : Nat) : Int) = 9223372036854775808 := by decide
    rw [e63] at hb
    rw [if_neg (h v (by omega) (by omega))]
  · rfl
end Go.Proofs.YtnomfbmebafolaaGreatDoor.M

namespace Go.Proofs.YtnomfbmebafolaaGreatDoor.P
open Go.RowKit Go.Proofs.YtnomfbmebafolaaGreatDoorW.PrintWords Go.Proofs.YtnomfbmebafolaaGreatDoorW.PrintLast Go.Proofs.YtnomfbmebafolaaGreatDoorW.PrintMore
set_option linter.unusedVariables false
set_option linter.unusedSimpArgs false
def G1 (w : World) : Prop := Lib.TabIs Tryz.prog w "internal/strconv.uint64pow10" .u64 Lib.pow10Tab
def G2 (w : World) : Prop := G1 w ∧ (∃ tp p, w.var? Tryz.prog "strconv.ErrSyntax" = some #[.iface tp p]) ∧ ∃ tp p, w.var? Tryz.prog "strconv.ErrRange" = some #[.iface tp p]
theorem var_below {W W' : World} {n : String} {cs : Array Value} (h : Below W.heap.size W W') (hv : W.var? Tryz.prog n = some cs) : W'.var? Tryz.prog n = some cs := by
  unfold World.var? at hv ⊢
  cases hg : Tryz.prog.globalNamed n with
  | none => rw [hg] at hv; exact hv
  | some g =>
    rw [hg] at hv
    simp only [Option.bind_some] at hv ⊢
    have hlt : g < W.heap.size := by
      by_cases hh : g < W.heap.size
      · exact hh
      · rw [Array.getElem?_eq_none (by omega)] at hv; cases hv
    rw [h.block g hlt]
    exact hv
theorem gl_1_1 {w w' : World} (h : Below w.heap.size w w') (hG : G1 w) : G1 w' := var_below h hG
theorem gl_2_2 {w w' : World} (h : Below w.heap.size w w') (hG : G2 w) : G2 w' := by
  obtain ⟨h1, ⟨t2, p2, h2⟩, t3, p3, h3⟩ := hG
  exact ⟨var_below h h1, ⟨t2, p2, var_below h h2⟩, t3, p3, var_below h h3⟩
theorem gl_2_1 {w w' : World} (h : Below w.heap.size w w') (hG : G2 w) : G1 w' := var_below h hG.1
def G4 (w : World) : Prop := G2 w ∧ w.cell? ⟨1, 0, none⟩ = some (.iface 145 (.agg #[.pointer (some ⟨10, 64, none⟩)]))
theorem gl_4_4 {w w' : World} (h : Below w.heap.size w w') (hG : G4 w) : G4 w' := ⟨gl_2_2 h hG.1, (h.cell (World.block_lt_of_cell? w _ hG.2)).trans hG.2⟩
theorem gl_4_2 {w w' : World} (h : Below w.heap.size w w') (hG : G4 w) : G2 w' := gl_2_2 h hG.1
theorem gl_4_1 {w w' : World} (h : Below w.heap.size w w') (hG : G4 w) : G1 w' := gl_2_1 h hG.1
def strconv_FormatInt.f (a0 : Int) (a1 : Int) : Option ByteArray :=
  if a1 = 10 ∧ -9223372036854775808 ≤ a0 ∧ a0 ≤ 9223372036854775807 then some ⟨(M.itoaF a0).toArray⟩ else none
theorem strconv_FormatInt.calls (a0 : Int) (a1 : Int) (r : ByteArray) (w : World) (hG : G1 w) (h : strconv_FormatInt.f a0 a1 = some r) :
    Calls Tryz.prog 58 #[.int .i64 a0, .int .i64 a1] w fun e w' => e = .returned (.string r) ∧ Below w.heap.size w w' := by
  unfold strconv_FormatInt.f at h
  split at h
  · rename_i hc
    obtain ⟨rfl, h0, h1⟩ := hc
    obtain rfl := Option.some.inj h
    rw [M.itoaF_eq a0 h0 h1]
    refine (Tryz.strconv_FormatInt_10 a0 h0 h1 w hG).mono ?_
    rintro e w' ⟨rfl, k, os, rfl⟩
    exact ⟨rfl, Lib.below_grow _ _ (Nat.le_refl _) _ _⟩
  · cases h
def strconv_Itoa.f (a0 : Int) : Option ByteArray :=
  if -9223372036854775808 ≤ a0 ∧ a0 ≤ 9223372036854775807 then some ⟨(M.itoaF a0).toArray⟩ else none
theorem strconv_Itoa.calls (a0 : Int) (r : ByteArray) (w : World) (hG : G1 w) (h : strconv_Itoa.f a0 = some r) :
    Calls Tryz.prog 49 #[.int .i64 a0] w fun e w' => e = .returned (.string r) ∧ Below w.heap.size w w' := by
  unfold strconv_Itoa.f at h
  split at h
  · rename_i hc
    obtain ⟨h0, h1⟩ := hc
    obtain rfl := Option.some.inj h
    rw [M.itoaF_eq a0 h0 h1]
    refine (Tryz.strconv_Itoa a0 h0 h1 w hG).mono ?_
    rintro e w' ⟨rfl, k, os, rfl⟩
    exact ⟨rfl, Lib.below_grow _ _ (Nat.le_refl _) _ _⟩
  · cases h
abbrev bs (l : List UInt8) : ByteArray := ⟨l.toArray⟩
end Go.Proofs.YtnomfbmebafolaaGreatDoor.P

namespace Go.Proofs.YtnomfbmebafolaaGreatDoor.P
open Go.RowKit Go.Proofs.YtnomfbmebafolaaGreatDoorW.PrintWords Go.Proofs.YtnomfbmebafolaaGreatDoorW.PrintLast Go.Proofs.YtnomfbmebafolaaGreatDoorW.PrintMore
attribute [local go_sem] max2_int min2_int max_two min_two max_three min_three max_four min_four   -- for this text's walks alone
set_option linter.unusedVariables false
set_option linter.unusedSimpArgs false
def slices_Index_string_string.l0 : Nat → List ByteArray → ByteArray → Int → Int → Option (Int)
  | 0, _, _, _, _ => none
  | k + 1, x0, x1, x7, x8 => if x8 < x7 then (if 0 ≤ x8 then (if x8 < (x0.length : Int) then (if x1.toList = (rdOf ByteArray.empty x0 x8).toList then (some x8) else (slices_Index_string_string.l0 k x0 x1 x7 (wrap64 (x8 + 1)))) else (none)) else (none)) else (some (-1))
def slices_Index_string_string.f (k : Nat) (l0 : List ByteArray) (a1 : ByteArray) : Option (Int) := slices_Index_string_string.l0 k l0 a1 (l0.length : Int) 0
theorem slices_Index_string_string.mono_l : ∀ k, (∀ y0 y1 y2 y3, LeO (slices_Index_string_string.l0 k y0 y1 y2 y3) (slices_Index_string_string.l0 (k + 1) y0 y1 y2 y3))
  | 0 => fun _ _ _ _ r h => by simp [slices_Index_string_string.l0] at h
  | k + 1 => by
    have ih0 := slices_Index_string_string.mono_l k
    · intro y0 y1 y2 y3
      unfold slices_Index_string_string.l0
      repeat' first
      | (with_reducible exact ih0 _ _ _ _)
      | (with_reducible exact LeO.refl _)
      | (with_reducible exact LeO.none _)
      | (with_reducible refine LeO.ite ?_ ?_)
      | (with_reducible refine LeO.bind ?_ (fun _ => ?_))
      | exact ih0 _ _ _ _
      | exact LeO.none _
      | refine LeO.ite ?_ ?_
      | refine LeO.bind ?_ (fun _ => ?_)
theorem slices_Index_string_string.mono : ∀ a0 a1 k, LeO (slices_Index_string_string.f k a0 a1) (slices_Index_string_string.f (k + 1) a0 a1) := by
  intro a0 a1 k
  have ih0 := slices_Index_string_string.mono_l k
  unfold slices_Index_string_string.f
  repeat' first
      | (with_reducible exact ih0 _ _ _ _)
      | (with_reducible exact LeO.refl _)
      | (with_reducible exact LeO.none _)
      | (with_reducible refine LeO.ite ?_ ?_)
      | (with_reducible refine LeO.bind ?_ (fun _ => ?_))
      | exact ih0 _ _ _ _
      | exact LeO.none _
      | refine LeO.ite ?_ ?_
      | refine LeO.bind ?_ (fun _ => ?_)
set_option maxHeartbeats 8000000 in
set_option maxRecDepth 100000 in
theorem slices_Index_string_string.calls (k : Nat) (A0 : Option Addr) (c0 : Nat) (l0 : List ByteArray) (a1 : ByteArray) (r : Int) (w : World) (hr0 : Kd.C Kd.string w A0 l0.length l0) (hc0 : l0.length ≤ c0) (h : slices_Index_string_string.f k l0 a1 = some r) :
    Calls Tryz.prog 83 #[.slice A0 l0.length c0, .string a1] w fun e w' => e = .returned (.int .i64 r) ∧ Drawn0 w w' := by
  have HR0 := Aside0.mk hr0
  have HC0 := Aside0.mk hc0
  clear hr0 hc0
  have H : (slices_Index_string_string.l0 k l0 a1 (l0.length : Int) 0) = some r := h
  clear h
  have H' := Aside0.mk H
  clear H
  go_enter Tryz.func83, Tryz.ntmps83
  go_wp2
  go_loopg [8] k (fun kq v8 w' => ∃ (x8_1 : Int), v8 = .int .i64 x8_1 ∧ Aside0 (slices_Index_string_string.l0 kq l0 a1 (l0.length : Int) x8_1 = some r) ∧ Aside0 (kq ≤ k) ∧ Drawn0 w w')
  case atStart => exact ⟨(0), zz27, H', ⟨Nat.le_refl _⟩, by repeat (first | exact Drawn0.refl _ | apply Drawn0.step)⟩
  case round =>
    clear H'
    try clear p2
    obtain ⟨x8_1, rfl, HA, HK1, ⟨m1, rfl⟩⟩ := hrel
    cases gk with
    | zero => exact absurd HA.out (by simp [slices_Index_string_string.l0])
    | succ k1 =>
      have H := HA.out
      clear HA
      simp only [slices_Index_string_string.l0] at H
      by_cases c3 : x8_1 < (l0.length : Int)
      · rw [if_pos c3] at H
        have c3b0 : decide (x8_1 < (l0.length : Int)) = true := decide_eq_true c3
        clear c3
        by_cases c4 : 0 ≤ x8_1
        · rw [if_pos c4] at H
          have c4b0 : decide (0 ≤ x8_1) = true := decide_eq_true c4
          clear c4
          by_cases c5 : x8_1 < (l0.length : Int)
          · rw [if_pos c5] at H
            have c5b0 : decide (x8_1 < (l0.length : Int)) = true := decide_eq_true c5
            clear c5
            by_cases c6 : a1.toList = (rdOf ByteArray.empty l0 x8_1).toList
            · rw [if_pos c6] at H
              have c6b0 : (a1.toList == (rdOf ByteArray.empty l0 x8_1).toList) = true := beq_iff_eq.mpr c6
              have c6b1 : (a1.toList != (rdOf ByteArray.empty l0 x8_1).toList) = false := bne_eq_false_iff_eq.mpr c6
              clear c6
              obtain rfl := Option.some.inj H
              have p131 : 0 ≤ (x8_1 : Int) := of_decide_eq_true (by first | (with_reducible assumption) | assumption)
              have q131 : x8_1 < (l0.length : Int) := of_decide_eq_true (by first | (with_reducible assumption) | assumption)
              obtain ⟨ad131, e131, hx131_0⟩ := Kd.at_string HR0.out x8_1 p131 q131
              cases e131
              replace p131 := eq_true p131
              replace q131 := eq_true q131
              go_wp2
              go_ret
              exact ⟨zz27, by repeat (first | exact Drawn0.refl _ | apply Drawn0.step)⟩
            · rw [if_neg c6] at H
              have c6b0 : (a1.toList == (rdOf ByteArray.empty l0 x8_1).toList) = false := beq_eq_false_iff_ne.mpr c6
              have c6b1 : (a1.toList != (rdOf ByteArray.empty l0 x8_1).toList) = true := bne_iff_ne.mpr c6
              have H' := Aside0.mk H
              clear H
              have p131 : 0 ≤ (x8_1 : Int) := of_decide_eq_true (by first | (with_reducible assumption) | assumption)
              have q131 : x8_1 < (l0.length : Int) := of_decide_eq_true (by first | (with_reducible assumption) | assumption)
              obtain ⟨ad131, e131, hx131_0⟩ := Kd.at_string HR0.out x8_1 p131 q131
              cases e131
              replace p131 := eq_true p131
              replace q131 := eq_true q131
              go_wp2
              go_roundg k1
              case measure => have := HK1.out; omega
              case rel => exact ⟨(wrap64 (x8_1 + 1)), zz27, H', ⟨by have := HK1.out; omega⟩, by repeat (first | exact Drawn0.refl _ | apply Drawn0.step)⟩
          · rw [if_neg c5] at H
            exact absurd H (by simp)
        · rw [if_neg c4] at H
          exact absurd H (by simp)
      · rw [if_neg c3] at H
        have c3b0 : decide (x8_1 < (l0.length : Int)) = false := decide_eq_false c3
        clear c3
        obtain rfl := Option.some.inj H
        go_wp2
        go_ret
        exact ⟨zz27, by repeat (first | exact Drawn0.refl _ | apply Drawn0.step)⟩
end Go.Proofs.YtnomfbmebafolaaGreatDoor.P

namespace Go.Proofs.YtnomfbmebafolaaGreatDoor.P
open Go.RowKit Go.Proofs.YtnomfbmebafolaaGreatDoorW.PrintWords Go.Proofs.YtnomfbmebafolaaGreatDoorW.PrintLast Go.Proofs.YtnomfbmebafolaaGreatDoorW.PrintMore
attribute [local go_sem] max2_int min2_int max_two min_two max_three min_three max_four min_four   -- for this text's walks alone
set_option linter.unusedVariables false
set_option linter.unusedSimpArgs false
def slices_Contains_string_string.f (k : Nat) (l0 : List ByteArray) (a1 : ByteArray) : Option (Bool) := (slices_Index_string_string.f k l0 a1).bind fun t132 => (some (decide (t132 ≥ 0)))
theorem slices_Contains_string_string.mono : ∀ a0 a1 k, LeO (slices_Contains_string_string.f k a0 a1) (slices_Contains_string_string.f (k + 1) a0 a1) := by
  intro a0 a1 k
  unfold slices_Contains_string_string.f
  repeat' first
      | (with_reducible exact slices_Index_string_string.mono _ _ _)
      | (with_reducible exact LeO.refl _)
      | (with_reducible exact LeO.none _)
      | (with_reducible refine LeO.ite ?_ ?_)
      | (with_reducible refine LeO.bind ?_ (fun _ => ?_))
      | exact slices_Index_string_string.mono _ _ _
      | exact LeO.none _
      | refine LeO.ite ?_ ?_
      | refine LeO.bind ?_ (fun _ => ?_)
set_option maxHeartbeats 8000000 in
set_option maxRecDepth 100000 in
theorem slices_Contains_string_string.calls (k : Nat) (A0 : Option Addr) (c0 : Nat) (l0 : List ByteArray) (a1 : ByteArray) (r : Bool) (w : World) (hr0 : Kd.C Kd.string w A0 l0.length l0) (hc0 : l0.length ≤ c0) (h : slices_Contains_string_string.f k l0 a1 = some r) :
    Calls Tryz.prog 65 #[.slice A0 l0.length c0, .string a1] w fun e w' => e = .returned (.bool r) ∧ Drawn0 w w' := by
  have HR0 := Aside0.mk hr0
  have HC0 := Aside0.mk hc0
  clear hr0 hc0
  have H : ((slices_Index_string_string.f k l0 a1).bind fun t132 => (some (decide (t132 ≥ 0)))) = some r := h
  clear h
  replace H := Option.bind_eq_some_iff.mp H
  obtain ⟨t132, A30, H⟩ := H
  replace H : (some (decide (t132 ≥ 0))) = some r := H
  have A3 := Aside0.mk A30
  clear A30
  obtain rfl := Option.some.inj H
  go_enter Tryz.func65, Tryz.ntmps65
  go_wp2_with (first | ((with_reducible refine gate_callee (f := 83) rfl ?_); refine goesL_ (some 7) rfl rfl Tryz.func83 (by kernel_rfl) rfl #[.slice A0 l0.length c0, .string a1] rfl zz25 ?_; (with_reducible refine (slices_Index_string_string.calls k _ _ l0 a1 t132 _ ?side1 ?side2 A3.out).mono ?_); (case side1 => repeat (first | exact HR0.out | (with_reducible refine Kd.C_alloc ?_ _) | (with_reducible refine Kd.C_drewN ?_ _) | (with_reducible refine Kd.C_drew ?_))); (case side2 => exact HC0.out); rintro e w' ⟨rfl, ⟨nd, rfl⟩⟩; refine ⟨_, rfl, ?_⟩))
  go_ret
  exact ⟨zz27, by repeat (first | exact Drawn0.refl _ | apply Drawn0.step)⟩
end Go.Proofs.YtnomfbmebafolaaGreatDoor.P

namespace Go.Proofs.YtnomfbmebafolaaGreatDoor.M
open Go.RowKit
set_option linter.unusedVariables false
set_option linter.unusedSimpArgs false
abbrev I64 (n : Int) : Prop := -9223372036854775808 ≤ n ∧ n ≤ 9223372036854775807
theorem wrap64_id {n : Int} (h : I64 n) : wrap64 n = n := by unfold wrap64; unfold I64 at h; omega
end Go.Proofs.YtnomfbmebafolaaGreatDoor.M

namespace Go.Proofs.YtnomfbmebafolaaGreatDoor.P
open Go.RowKit Go.Proofs.YtnomfbmebafolaaGreatDoorW.PrintWords Go.Proofs.YtnomfbmebafolaaGreatDoorW.PrintLast Go.Proofs.YtnomfbmebafolaaGreatDoorW.PrintMore
open M (I64)
set_option linter.unusedVariables false
set_option linter.unusedSimpArgs false
abbrev TN := S31
abbrev Tok := S137
abbrev ptr (g : Nat) : Value := .pointer (some ⟨g, 0, none⟩)
abbrev ndV (t : TN) (v9 : Value) : Value := .agg #[.int .i64 t.f0, .int .i64 t.f1.f0, .int .i64 t.f1.f1, .string t.f1.f2, .int .i64 t.f2.f0.f0, .int .i64 t.f2.f0.f1, .int .i64 t.f2.f1.f0, .int .i64 t.f2.f1.f1, .string t.f3, v9]
structure Bu (g : Nat) (w w' : World) : Prop where
  os : w'.os = w.os
  tape : w'.tape = w.tape
  output : w'.output = w.output
  size : w.heap.size ≤ w'.heap.size
  block : ∀ k, k < w.heap.size → k ≠ g → w'.heap[k]? = w.heap[k]?
theorem Bu.refl (g : Nat) (w : World) : Bu g w w := ⟨rfl, rfl, rfl, Nat.le_refl _, fun _ _ _ => rfl⟩
theorem Bu.trans {g : Nat} {a b c : World} (h : Bu g a b) (k : Bu g b c) : Bu g a c :=
  ⟨k.os.trans h.os, k.tape.trans h.tape, k.output.trans h.output, Nat.le_trans h.size k.size, fun i hi hg => (k.block i (Nat.lt_of_lt_of_le hi h.size) hg).trans (h.block i hi hg)⟩
theorem Bu.of_below {g : Nat} {a b : World} (h : Below a.heap.size a b) : Bu g a b := ⟨h.os, h.tape, h.output, h.size, fun k hk _ => h.block k hk⟩
theorem Bu.set (g : Nat) (w : World) (j : Nat) (u : Value) : Bu g w (w.setCell ⟨g, j, none⟩ u) := ⟨rfl, rfl, rfl, by simp [World.setCell], fun k _ hg => Below.heap_setCell w ⟨g, j, none⟩ u k hg⟩
theorem Bu.below {g : Nat} {w0 a b : World} (h : Below w0.heap.size w0 a) (k : Bu g a b) (hg : w0.heap.size ≤ g) : Below w0.heap.size w0 b :=
  ⟨k.os.trans h.os, k.tape.trans h.tape, k.output.trans h.output, Nat.le_trans h.size k.size, fun i hi => (k.block i (Nat.lt_of_lt_of_le hi h.size) (by omega)).trans (h.block i hi)⟩
def PS (g : Nat) (toks : List Tok) (en at_ : Int) (W : World) : Prop :=
  ∃ A c, W.heap[g]? = some (.cells #[.slice A toks.length c, .int .i64 at_, .int .i64 en] 106 (0, 0)) ∧ Kd.F k137 W (fun k => k < g) A toks.length toks ∧ ∃ gw : World, G1 gw ∧ Below gw.heap.size gw W ∧ gw.heap.size ≤ g
theorem Below.on {w0 a b : World} (h : Below w0.heap.size w0 a) (k : Below a.heap.size a b) : Below w0.heap.size w0 b :=
  ⟨k.os.trans h.os, k.tape.trans h.tape, k.output.trans h.output, Nat.le_trans h.size k.size, fun i hi => (k.block i (Nat.lt_of_lt_of_le hi h.size)).trans (h.block i hi)⟩
theorem Below.of_bu {g : Nat} {w0 a : World} (h : Bu g w0 a) (hg : w0.heap.size ≤ g) : Below w0.heap.size w0 a := ⟨h.os, h.tape, h.output, h.size, fun k hk => h.block k hk (by omega)⟩
theorem PS.g1 {g : Nat} {toks : List Tok} {en at_ : Int} {W : World} (h : PS g toks en at_ W) : G1 W := by
  obtain ⟨A, c, h1, h2, gw, h3, h4, h5⟩ := h
  exact gl_1_1 h4 h3
theorem PS.below {g : Nat} {toks : List Tok} {en at_ : Int} {W W' : World} (h : PS g toks en at_ W) (hb : Below W.heap.size W W') : PS g toks en at_ W' := by
  obtain ⟨A, c, h1, h2, gw, h3, h4, h5⟩ := h
  exact ⟨A, c, blk_below h1 hb, Kd.F_below h2 hb, gw, h3, Below.on h4 hb, h5⟩
theorem PS.lt {g : Nat} {toks : List Tok} {en at_ : Int} {W : World} (h : PS g toks en at_ W) : g < W.heap.size := by
  obtain ⟨A, c, h1, h2, -⟩ := h
  exact blk_lt h1
def inL (l : List ByteArray) (s : ByteArray) : Bool := l.any fun x => x.toList == s.toList
def signV (toks : List Tok) (at_ : Nat) (l : List ByteArray) : ByteArray × Bool × Nat :=
  match toks[at_]? with
  | some t => if t.f0 = 4 then (if inL l t.f2 = true then (t.f2, true, at_ + 1) else (⟨#[]⟩, false, at_)) else (⟨#[]⟩, false, at_)
  | none => (⟨#[]⟩, false, at_)
theorem index_loop (l : List ByteArray) (s : ByteArray) (hl : l.length ≤ 1000000) : ∀ (d i k : Nat), i + d = l.length → d < k → ∃ r : Int, slices_Index_string_string.l0 k l s (l.length : Int) (i : Int) = some r ∧ (decide (r ≥ 0)) = inL (l.drop i) s := by
  intro d
  induction d with
  | zero =>
    intro i k hi hk
    obtain ⟨k, rfl⟩ : ∃ m, k = m + 1 := ⟨k - 1, by omega⟩
    rw [slices_Index_string_string.l0, if_neg (by omega), List.drop_of_length_le (by omega)]
    exact ⟨_, rfl, rfl⟩
  | succ d ih =>
    intro i k hi hk
    obtain ⟨k, rfl⟩ : ∃ m, k = m + 1 := ⟨k - 1, by omega⟩
    have hlt : i < l.length := by omega
    have hd : l.drop i = l[i] :: l.drop (i + 1) := List.drop_eq_getElem_cons hlt
    have hrd : rdOf ByteArray.empty l (i : Int) = l[i] := by unfold rdOf; simp [List.getD_eq_getElem?_getD, hlt]
    have hw : wrap64 ((i : Int) + 1) = ((i + 1 : Nat) : Int) := by rw [M.wrap64_id (by unfold I64; omega)]; omega
    rw [slices_Index_string_string.l0, if_pos (by omega), if_pos (by omega), if_pos (by omega), hrd, hd, hw]
    unfold inL
    rw [List.any_cons]
    by_cases hq : s.toList = (l[i]).toList
    · first
      | rw [if_pos hq]
      | rw [if_pos hq.symm]
      refine ⟨_, rfl, ?_⟩
      rw [show ((l[i]).toList == s.toList) = true by rw [hq]; simp, Bool.true_or]
      exact decide_eq_true (by omega)
    · first
      | rw [if_neg hq]
      | rw [if_neg (fun h => hq h.symm)]
      obtain ⟨r, h1, h2⟩ := ih (i + 1) k (by omega) (by omega)
      refine ⟨r, h1, ?_⟩
      rw [show ((l[i]).toList == s.toList) = false by rw [beq_eq_false_iff_ne]; exact fun h => hq h.symm, Bool.false_or, h2]; rfl
theorem contains_eq (l : List ByteArray) (s : ByteArray) (hl : l.length ≤ 1000) : slices_Contains_string_string.f 2000 l s = some (inL l s) := by
  obtain ⟨r, h1, h2⟩ := index_loop l s (by omega) l.length 0 2000 (by omega) (by omega)
  unfold slices_Contains_string_string.f slices_Index_string_string.f
  have h1' : slices_Index_string_string.l0 2000 l s (l.length : Int) 0 = some r := h1
  rw [h1', Option.bind_some, h2]; rfl
theorem deep_no (n : Int) (w : World) (h : ¬ 40 < n) : Calls Tryz.prog 73 #[.int .i64 n] w fun e w' => e = .returned .nilIface ∧ Below w.heap.size w w' := by
  have c0 : decide (40 < n) = false := decide_eq_false h
  go_enter Tryz.func73, Tryz.ntmps73
  go_wp2
  go_ret
  exact ⟨rfl, Below.refl _ _⟩
theorem deep_yes (n : Int) (w : World) (h : 40 < n) : Calls Tryz.prog 73 #[.int .i64 n] w fun e w' => ∃ q, e = .returned (.iface 78 (ptr q)) ∧ w'.heap[q]? = some (.cells #[.int .i64 0, .int .i64 14] 82 (0, 0)) ∧ w.heap.size ≤ q ∧ Below w.heap.size w w' := by
  have c0 : decide (40 < n) = true := decide_eq_true h
  go_enter Tryz.func73, Tryz.ntmps73
  go_wp2
  go_ret
  exact ⟨_, rfl, blk_new _ _, Nat.le_refl _, below_alloc (Below.refl _ _) _⟩
theorem rdTok {l : List Tok} {i : Nat} (h : i < l.length) : rd_T137 l (i : Int) = l[i] := by
  unfold rd_T137; simp [List.getD_eq_getElem?_getD, h]
theorem PS.cells {g : Nat} {toks : List Tok} {en : Int} {at_ : Int} {W : World} (h : PS g toks en at_ W) :
    ∃ A c, W.cell? ⟨g, 0, none⟩ = some (.slice A toks.length c) ∧ W.cell? ⟨g, 1, none⟩ = some (.int .i64 at_) ∧ W.cell? ⟨g, 2, none⟩ = some (.int .i64 en) ∧ W.frozen? ⟨g, 1, none⟩ = false ∧
      W.heap[g]? = some (.cells #[.slice A toks.length c, .int .i64 at_, .int .i64 en] 106 (0, 0)) ∧ Kd.F k137 W (fun k => k < g) A toks.length toks := by
  obtain ⟨A, c, h1, h2, -⟩ := h
  exact ⟨A, c, (blk_cell h1 0).trans rfl, (blk_cell h1 1).trans rfl, (blk_cell h1 2).trans rfl, blk_frozen h1 1, h1, h2⟩
end Go.Proofs.YtnomfbmebafolaaGreatDoor.P

namespace Go.Proofs.YtnomfbmebafolaaGreatDoor.P
open Go.RowKit Go.Proofs.YtnomfbmebafolaaGreatDoorW.PrintWords Go.Proofs.YtnomfbmebafolaaGreatDoorW.PrintLast Go.Proofs.YtnomfbmebafolaaGreatDoorW.PrintMore
open M (I64)
set_option linter.unusedVariables false
set_option linter.unusedSimpArgs false
theorem PS.put {g : Nat} {toks : List Tok} {en at_ : Int} {W : World} (h : PS g toks en at_ W) (v : Int) : PS g toks en v (W.setCell ⟨g, 1, none⟩ (.int .i64 v)) := by
  obtain ⟨A, c, h1, h2, gw, h3, h4, h5⟩ := h
  exact ⟨A, c, blk_put h1 1 _ rfl, Kd.F_far (p := ⟨g, 1, none⟩) h2 (fun k hk => by show k ≠ g; omega) _, gw, h3, Bu.below h4 (Bu.set g W 1 _) h5, h5⟩
theorem PS.tok {g : Nat} {toks : List Tok} {W : World} {A : Option Addr} (h2 : Kd.F k137 W (fun k => k < g) A toks.length toks) (n : Nat) (hn : n < toks.length) :
    ∃ ad, A = some ad ∧ W.cell? (ad.add (n * 4)) = some (.int .i64 (toks[n]).f0) ∧ W.cell? ⟨(ad.add (n * 4)).block, (ad.add (n * 4)).off + 1, none⟩ = some (.int .i64 (toks[n]).f1) ∧ W.cell? ⟨(ad.add (n * 4)).block, (ad.add (n * 4)).off + 2, none⟩ = some (.string (toks[n]).f2) ∧ W.cell? ⟨(ad.add (n * 4)).block, (ad.add (n * 4)).off + 3, none⟩ = some (.int .i64 (toks[n]).f3) := by
  have := at_T137 (Kd.F_now h2) (n : Int) (by omega) (by omega)
  rw [rdTok hn] at this
  exact this
set_option maxHeartbeats 4000000 in
set_option maxRecDepth 100000 in
theorem sign_end (g : Nat) (toks : List Tok) (en : Int) (A : Option Addr) (c : Nat) (l : List ByteArray) (W : World) (hp : PS g toks en (toks.length : Int) W) :
    Calls Tryz.prog 75 #[ptr g, .slice A l.length c] W fun e W' => e = .returned (.tuple #[.string ⟨#[]⟩, .bool false]) ∧ PS g toks en (toks.length : Int) W' ∧ Bu g W W' := by
  obtain ⟨At, ct, c0, c1, c2, z1, hb, hF⟩ := hp.cells
  have HP := Lib.hid hp
  have hq : ((toks.length : Int) == (toks.length : Int)) = true := by simp
  clear hp hb hF
  go_enter Tryz.func75, Tryz.ntmps75
  go_wp2
  repeat (go_quiet (fail); try go_wp2)
  go_ret2
  exact ⟨by first | rfl | (simp; done), by first | exact HP.out | exact HP.out.below (pw_below_drewN (Below.refl _ _) _) | exact HP.out.below (Below.refl _ _).drew, by first | exact Bu.refl _ _ | exact .of_below (pw_below_drewN (Below.refl _ _) _) | exact .of_below (Below.refl _ _).drew⟩
set_option maxHeartbeats 4000000 in
set_option maxRecDepth 100000 in
theorem sign_other (g : Nat) (toks : List Tok) (en : Int) (n : Nat) (hn : n < toks.length) (hk : (toks[n]).f0 ≠ 4) (A : Option Addr) (c : Nat) (l : List ByteArray) (W : World) (hp : PS g toks en (n : Int) W) :
    Calls Tryz.prog 75 #[ptr g, .slice A l.length c] W fun e W' => e = .returned (.tuple #[.string ⟨#[]⟩, .bool false]) ∧ PS g toks en (n : Int) W' ∧ Bu g W W' := by
  obtain ⟨At, ct, c0, c1, c2, z1, hb, hF⟩ := hp.cells
  have HP := Lib.hid hp
  obtain ⟨ad, rfl, t0, t1, t2, t3⟩ := PS.tok hF n hn
  have hq : ((n : Int) == (toks.length : Int)) = false := by simp; omega
  have hq1 : ((0 : Int) ≤ (n : Int)) = True := eq_true (by omega)
  have hq2 : ((n : Int) < (toks.length : Int)) = True := eq_true (by omega)
  have hk' : (((toks[n]).f0 : Int) != 4) = true := by simpa using hk
  clear hp hb hF hk
  go_enter Tryz.func75, Tryz.ntmps75
  go_wp2
  repeat (go_quiet (fail); try go_wp2)
  go_ret2
  exact ⟨by first | rfl | (simp; done), by first | exact HP.out | exact HP.out.below (pw_below_drewN (Below.refl _ _) _) | exact HP.out.below (Below.refl _ _).drew, by first | exact Bu.refl _ _ | exact .of_below (pw_below_drewN (Below.refl _ _) _) | exact .of_below (Below.refl _ _).drew⟩
set_option maxHeartbeats 4000000 in
set_option maxRecDepth 100000 in
theorem sign_no (g : Nat) (toks : List Tok) (en : Int) (n : Nat) (hn : n < toks.length) (hk : (toks[n]).f0 = 4) (A : Option Addr) (c : Nat) (l : List ByteArray) (hi : inL l (toks[n]).f2 = false) (W : World) (hp : PS g toks en (n : Int) W)
    (hl : Kd.string.C W A l.length l) (hc : l.length ≤ c) (hls : l.length ≤ 1000) :
    Calls Tryz.prog 75 #[ptr g, .slice A l.length c] W fun e W' => e = .returned (.tuple #[.string ⟨#[]⟩, .bool false]) ∧ PS g toks en (n : Int) W' ∧ Bu g W W' := by
  obtain ⟨At, ct, c0, c1, c2, z1, hb, hF⟩ := hp.cells
  have HP := Lib.hid hp
  obtain ⟨ad, rfl, t0, t1, t2, t3⟩ := PS.tok hF n hn
  have hq : ((n : Int) == (toks.length : Int)) = false := by simp; omega
  have hq1 : ((0 : Int) ≤ (n : Int)) = True := eq_true (by omega)
  have hq2 : ((n : Int) < (toks.length : Int)) = True := eq_true (by omega)
  have hk' : (((toks[n]).f0 : Int) != 4) = false := by rw [hk]; rfl
  have HC := Lib.hid (contains_eq l (toks[n]).f2 hls)
  have HL := Lib.hid hl
  have HN := Lib.hid hc
  rw [hi] at HC
  clear hp hb hF hk hl hc hls hi
  go_enter Tryz.func75, Tryz.ntmps75
  go_wp2
  repeat (go_quiet (first | (go_at_call 65; (with_reducible refine (slices_Contains_string_string.calls 2000 _ _ l _ false _ (by repeat (first | exact HL.out | (with_reducible refine Kd.C_drewN ?_ _) | (with_reducible refine Kd.C_drew ?_))) HN.out HC.out).mono ?_); rintro e w' ⟨rfl, ⟨nd, rfl⟩⟩; (try first | exact ⟨rfl, _, World.drewN_drewN _ _ _⟩ | exact ⟨rfl, _, Eq.trans (World.drewN_drewN _ _ _) (congrArg (World.drewN _) (Nat.add_assoc _ _ _))⟩))); try go_wp2)
  go_ret2
  exact ⟨by first | rfl | (simp; done), by first | exact HP.out | exact HP.out.below (pw_below_drewN (Below.refl _ _) _) | exact HP.out.below (Below.refl _ _).drew, by first | exact Bu.refl _ _ | exact .of_below (pw_below_drewN (Below.refl _ _) _) | exact .of_below (Below.refl _ _).drew⟩
set_option maxHeartbeats 4000000 in
set_option maxRecDepth 100000 in
theorem sign_yes (g : Nat) (toks : List Tok) (en : Int) (n : Nat) (hn : n < toks.length) (hk : (toks[n]).f0 = 4) (A : Option Addr) (c : Nat) (l : List ByteArray) (hi : inL l (toks[n]).f2 = true) (W : World) (hp : PS g toks en (n : Int) W)
    (hl : Kd.string.C W A l.length l) (hc : l.length ≤ c) (hls : l.length ≤ 1000) (hlen : toks.length ≤ 1000000) :
    Calls Tryz.prog 75 #[ptr g, .slice A l.length c] W fun e W' => e = .returned (.tuple #[.string (toks[n]).f2, .bool true]) ∧ PS g toks en ((n + 1 : Nat) : Int) W' ∧ Bu g W W' := by
  obtain ⟨At, ct, c0, c1, c2, z1, hb, hF⟩ := hp.cells
  have HP := Lib.hid hp
  obtain ⟨ad, rfl, t0, t1, t2, t3⟩ := PS.tok hF n hn
  have HB := Lib.hid hb
  have HF := Lib.hid hF
  have hq : ((n : Int) == (toks.length : Int)) = false := by simp; omega
  have hq1 : ((0 : Int) ≤ (n : Int)) = True := eq_true (by omega)
  have hq2 : ((n : Int) < (toks.length : Int)) = True := eq_true (by omega)
  have hk' : (((toks[n]).f0 : Int) != 4) = false := by rw [hk]; rfl
  have HC := Lib.hid (contains_eq l (toks[n]).f2 hls)
  have HL := Lib.hid hl
  have HN := Lib.hid hc
  rw [hi] at HC
  have w1 : IntKind.i64.wrap ((n : Int) + 1) = (n : Int) + 1 := by rw [i64_w, M.wrap64_id (by unfold I64; omega)]
  have w2 : IntKind.i64.wrap ((n : Int) + 1 - 1) = (n : Int) := by rw [i64_w, M.wrap64_id (by unfold I64; omega)]; omega
  clear hp hb hF hk hl hc hls hi
  go_enter Tryz.func75, Tryz.ntmps75
  go_wp2
  repeat (go_quiet (first | (go_at_call 65; (with_reducible refine (slices_Contains_string_string.calls 2000 _ _ l _ true _ (by repeat (first | exact HL.out | (with_reducible refine Kd.C_drewN ?_ _) | (with_reducible refine Kd.C_drew ?_))) HN.out HC.out).mono ?_); rintro e w' ⟨rfl, ⟨nd, rfl⟩⟩; (try first | exact ⟨rfl, _, World.drewN_drewN _ _ _⟩ | exact ⟨rfl, _, Eq.trans (World.drewN_drewN _ _ _) (congrArg (World.drewN _) (Nat.add_assoc _ _ _))⟩))); try go_wp2)
  go_ret2
  exact ⟨by first | rfl | (simp; done), ((HP.out.below (pw_below_drewN (Below.refl _ _) _)).put ((n : Int) + 1)).below (pw_below_drewN (Below.refl _ _) _), ((Bu.of_below (pw_below_drewN (Below.refl _ _) _)).trans (Bu.set g _ 1 _)).trans (.of_below (pw_below_drewN (Below.refl _ _) _))⟩
theorem sign_calls (g : Nat) (toks : List Tok) (en : Int) (n : Nat) (hn : n ≤ toks.length) (A : Option Addr) (c : Nat) (l : List ByteArray) (W : World) (hp : PS g toks en (n : Int) W)
    (hl : Kd.string.C W A l.length l) (hc : l.length ≤ c) (hls : l.length ≤ 1000) (hlen : toks.length ≤ 1000000) :
    Calls Tryz.prog 75 #[ptr g, .slice A l.length c] W fun e W' => e = .returned (.tuple #[.string (signV toks n l).1, .bool (signV toks n l).2.1]) ∧ PS g toks en ((signV toks n l).2.2 : Int) W' ∧ Bu g W W' := by
  unfold signV
  by_cases h : n < toks.length
  · rw [List.getElem?_eq_getElem h]
    simp only []
    by_cases hk : (toks[n]).f0 = 4
    · rw [if_pos hk]
      cases hi : inL l (toks[n]).f2
      · exact sign_no g toks en n h hk A c l hi W hp hl hc hls
      · exact sign_yes g toks en n h hk A c l hi W hp hl hc hls hlen
    · rw [if_neg hk]
      exact sign_other g toks en n h hk A c l W hp
  · have he : n = toks.length := by omega
    subst he
    rw [List.getElem?_eq_none (Nat.le_refl _)]
    exact sign_end g toks en A c l W hp
end Go.Proofs.YtnomfbmebafolaaGreatDoor.P

namespace Go.Proofs.YtnomfbmebafolaaGreatDoor.P
open Go.RowKit Go.Proofs.YtnomfbmebafolaaGreatDoorW.PrintWords Go.Proofs.YtnomfbmebafolaaGreatDoorW.PrintLast Go.Proofs.YtnomfbmebafolaaGreatDoorW.PrintMore
attribute [local go_sem] max2_int min2_int max_two min_two max_three min_three max_four min_four   -- for this text's walks alone
set_option linter.unusedVariables false
set_option linter.unusedSimpArgs false
def tree_two.f (a0 : ByteArray) (a1_0 : Int) (a1_1 : Int) (a1_2 : Int) (a1_3 : ByteArray) (a1_4 : Int) (a1_5 : Int) (a1_6 : Int) (a1_7 : Int) (a1_8 : ByteArray) (l1_9 : List (S31)) (a2_0 : Int) (a2_1 : Int) (a2_2 : Int) (a2_3 : ByteArray) (a2_4 : Int) (a2_5 : Int) (a2_6 : Int) (a2_7 : Int) (a2_8 : ByteArray) (l2_9 : List (S31)) : Option (Int × Int × Int × ByteArray × Int × Int × Int × Int × ByteArray × (List (S31))) := some (5, 0, 0, (⟨#[]⟩ : ByteArray), 0, 0, 0, 0, a0, (([(⟨a1_0, (⟨a1_1, a1_2, a1_3⟩ : S24), (⟨(⟨a1_4, a1_5⟩ : S26), (⟨a1_6, a1_7⟩ : S26)⟩ : S28), a1_8, l1_9⟩ : S31), (⟨a2_0, (⟨a2_1, a2_2, a2_3⟩ : S24), (⟨(⟨a2_4, a2_5⟩ : S26), (⟨a2_6, a2_7⟩ : S26)⟩ : S28), a2_8, l2_9⟩ : S31)] : List (S31))))
set_option maxHeartbeats 8000000 in
set_option maxRecDepth 100000 in
theorem tree_two.calls (a0 : ByteArray) (a1_0 : Int) (a1_1 : Int) (a1_2 : Int) (a1_3 : ByteArray) (a1_4 : Int) (a1_5 : Int) (a1_6 : Int) (a1_7 : Int) (a1_8 : ByteArray) (P1_9_ : Nat → Prop) (A1_9 : Option Addr) (c1_9 : Nat) (l1_9 : List (S31)) (a2_0 : Int) (a2_1 : Int) (a2_2 : Int) (a2_3 : ByteArray) (a2_4 : Int) (a2_5 : Int) (a2_6 : Int) (a2_7 : Int) (a2_8 : ByteArray) (P2_9_ : Nat → Prop) (A2_9 : Option Addr) (c2_9 : Nat) (l2_9 : List (S31)) (r1 : Int) (r2 : Int) (r3 : Int) (r4 : ByteArray) (r5 : Int) (r6 : Int) (r7 : Int) (r8 : Int) (r9 : ByteArray) (r10 : List (S31)) (w : World) (hs1_9 : Kd.V k31 31 w w.heap.size (fun k_ => P1_9_ k_) (.slice A1_9 l1_9.length c1_9) l1_9) (hs2_9 : Kd.V k31 31 w w.heap.size (fun k_ => P2_9_ k_) (.slice A2_9 l2_9.length c2_9) l2_9) (h : tree_two.f a0 a1_0 a1_1 a1_2 a1_3 a1_4 a1_5 a1_6 a1_7 a1_8 l1_9 a2_0 a2_1 a2_2 a2_3 a2_4 a2_5 a2_6 a2_7 a2_8 l2_9 = some (r1, r2, r3, r4, r5, r6, r7, r8, r9, r10)) :
    Calls Tryz.prog 76 #[.string a0, .agg #[.int .i64 a1_0, .int .i64 a1_1, .int .i64 a1_2, .string a1_3, .int .i64 a1_4, .int .i64 a1_5, .int .i64 a1_6, .int .i64 a1_7, .string a1_8, .slice A1_9 l1_9.length c1_9], .agg #[.int .i64 a2_0, .int .i64 a2_1, .int .i64 a2_2, .string a2_3, .int .i64 a2_4, .int .i64 a2_5, .int .i64 a2_6, .int .i64 a2_7, .string a2_8, .slice A2_9 l2_9.length c2_9]] w fun e w' => ∃ v9_ : Value, e = .returned (.agg #[.int .i64 r1, .int .i64 r2, .int .i64 r3, .string r4, .int .i64 r5, .int .i64 r6, .int .i64 r7, .int .i64 r8, .string r9, v9_]) ∧ Kd.N k31 31 w' w.heap.size (fun k_ => ((P1_9_ k_ ∨ P2_9_ k_) ∨ w.heap.size ≤ k_)) v9_ r10 ∧ Below w.heap.size w w' := by
  have hu31 := Tryz.underlying31
  have HO1_9 := Aside0.mk (show Kd.V k31 31 w w.heap.size (fun k_ => ((P1_9_ k_ ∨ P2_9_ k_) ∨ w.heap.size ≤ k_)) (.slice A1_9 l1_9.length c1_9) l1_9 from Kd.V_mono hs1_9 (fun k_ hk => .inl (.inl hk)))
  have HO2_9 := Aside0.mk (show Kd.V k31 31 w w.heap.size (fun k_ => ((P1_9_ k_ ∨ P2_9_ k_) ∨ w.heap.size ≤ k_)) (.slice A2_9 l2_9.length c2_9) l2_9 from Kd.V_mono hs2_9 (fun k_ hk => .inl (.inr hk)))
  have HB := Aside0.mk (Below.refl w.heap.size w)
  have H : (some (5, 0, 0, (⟨#[]⟩ : ByteArray), 0, 0, 0, 0, a0, (([(⟨a1_0, (⟨a1_1, a1_2, a1_3⟩ : S24), (⟨(⟨a1_4, a1_5⟩ : S26), (⟨a1_6, a1_7⟩ : S26)⟩ : S28), a1_8, l1_9⟩ : S31), (⟨a2_0, (⟨a2_1, a2_2, a2_3⟩ : S24), (⟨(⟨a2_4, a2_5⟩ : S26), (⟨a2_6, a2_7⟩ : S26)⟩ : S28), a2_8, l2_9⟩ : S31)] : List (S31))))) = some (r1, r2, r3, r4, r5, r6, r7, r8, r9, r10) := h
  clear h
  obtain ⟨y159, hy159⟩ : ∃ y_ : List (S31), y_ = (([(⟨a1_0, (⟨a1_1, a1_2, a1_3⟩ : S24), (⟨(⟨a1_4, a1_5⟩ : S26), (⟨a1_6, a1_7⟩ : S26)⟩ : S28), a1_8, l1_9⟩ : S31), (⟨a2_0, (⟨a2_1, a2_2, a2_3⟩ : S24), (⟨(⟨a2_4, a2_5⟩ : S26), (⟨a2_6, a2_7⟩ : S26)⟩ : S28), a2_8, l2_9⟩ : S31)] : List (S31))) := ⟨_, rfl⟩
  replace H : (some (5, 0, 0, (⟨#[]⟩ : ByteArray), 0, 0, 0, 0, a0, y159)) = some (r1, r2, r3, r4, r5, r6, r7, r8, r9, r10) := by first | (rw [hy159]; with_reducible exact H) | (have H2_ := (Option.bind_some _ _).symm.trans H; rw [hy159]; with_reducible exact H2_) | (have H2_ := (Option.bind_some _ _).symm.trans H; with_reducible exact H2_) | with_reducible exact H | (rw [hy159]; exact H) | exact H
  have Ny159 := Aside0.mk hy159
  clear hy159
  simp only [Option.some.injEq, Prod.mk.injEq] at H
  obtain ⟨rfl, rfl, rfl, rfl, rfl, rfl, rfl, rfl, rfl, rfl⟩ := H
  go_enter Tryz.func76, Tryz.ntmps76
  go_wp2_with (first | ((with_reducible refine gate_dst (N := 4) rfl ?_); refine box_event ?hg (N := 4) ?hd (cs := #[.int .i64 a1_0, .int .i64 a1_1, .int .i64 a1_2, .string a1_3, .int .i64 a1_4, .int .i64 a1_5, .int .i64 a1_6, .int .i64 a1_7, .string a1_8, .slice A1_9 l1_9.length c1_9]) (t := 31) ?hr ?_; (case hd => rfl); (case hg => rfl); (case hr => first | (go_simp; done) | (go_simp; rfl)); intro gb156 hg w4 hbox hb; have n0_ := Aside0.mk (Kd.V_below (Kd.V_elderB (by (with_reducible repeat (first | apply Kd.V_alloc | apply Kd.V_drewN | apply Kd.V_drew)); exact HO1_9.out) gb156 (Nat.le_of_eq hg.symm)) hb); have n1_ := Aside0.mk (Kd.V_below (Kd.V_elderB (by (with_reducible repeat (first | apply Kd.V_alloc | apply Kd.V_drewN | apply Kd.V_drew)); exact HO2_9.out) gb156 (Nat.le_of_eq hg.symm)) hb); have n2_ := Aside0.mk (below_step zz1 hb); have n3_ := Aside0.mk (hbox); have n4_ := Aside0.mk ((by rw [hg]; exact (below_size zz1) : w.heap.size ≤ gb156)); have n5_ := n4_; clear HO1_9; clear HO2_9; clear HB; have HO1_9 := n0_; have HO2_9 := n1_; have HB := n2_; have BK156 := n3_; have GW156 := n4_; have GE156 := n5_; clear n0_ n1_ n2_ n3_ n4_ n5_; clear hb hbox hg) | ((with_reducible refine gate_dst (N := 5) rfl ?_); refine box_event ?hg (N := 5) ?hd (cs := #[.int .i64 a2_0, .int .i64 a2_1, .int .i64 a2_2, .string a2_3, .int .i64 a2_4, .int .i64 a2_5, .int .i64 a2_6, .int .i64 a2_7, .string a2_8, .slice A2_9 l2_9.length c2_9]) (t := 31) ?hr ?_; (case hd => rfl); (case hg => rfl); (case hr => first | (go_simp; done) | (go_simp; rfl)); intro gb157 hg w5 hbox hb; have n0_ := Aside0.mk (Kd.V_below (Kd.V_elderB (by (with_reducible repeat (first | apply Kd.V_alloc | apply Kd.V_drewN | apply Kd.V_drew)); exact HO1_9.out) gb157 (Nat.le_of_eq hg.symm)) hb); have n1_ := Aside0.mk (Kd.V_below (Kd.V_elderB (by (with_reducible repeat (first | apply Kd.V_alloc | apply Kd.V_drewN | apply Kd.V_drew)); exact HO2_9.out) gb157 (Nat.le_of_eq hg.symm)) hb); have n2_ := Aside0.mk (blk_below (g := gb156) (o := .cells #[.int .i64 a1_0, .int .i64 a1_1, .int .i64 a1_2, .string a1_3, .int .i64 a1_4, .int .i64 a1_5, .int .i64 a1_6, .int .i64 a1_7, .string a1_8, .slice A1_9 l1_9.length c1_9] 31 (0, 0)) (zB BK156.out) hb); have n3_ := Aside0.mk (below_step (by repeat first | with_reducible exact HB.out | apply zS | refine below_set ?_ GE156.out | exact HB.out) hb); have n4_ := Aside0.mk (hbox); have n5_ := Aside0.mk ((by rw [hg]; exact (below_size (by repeat first | with_reducible exact HB.out | apply zS | refine below_set ?_ GE156.out | exact HB.out)) : w.heap.size ≤ gb157)); have n6_ := n5_; have n7_ := Aside0.mk ((by rw [hg]; exact Nat.ne_of_lt (blk_lt (g := gb156) (o := .cells #[.int .i64 a1_0, .int .i64 a1_1, .int .i64 a1_2, .string a1_3, .int .i64 a1_4, .int .i64 a1_5, .int .i64 a1_6, .int .i64 a1_7, .string a1_8, .slice A1_9 l1_9.length c1_9] 31 (0, 0)) (zB BK156.out)) : gb156 ≠ gb157)); have n8_ := Aside0.mk ((by rw [hg]; exact Nat.ne_of_gt (blk_lt (g := gb156) (o := .cells #[.int .i64 a1_0, .int .i64 a1_1, .int .i64 a1_2, .string a1_3, .int .i64 a1_4, .int .i64 a1_5, .int .i64 a1_6, .int .i64 a1_7, .string a1_8, .slice A1_9 l1_9.length c1_9] 31 (0, 0)) (zB BK156.out)) : gb157 ≠ gb156)); clear HO1_9; clear HO2_9; clear BK156; clear HB; have HO1_9 := n0_; have HO2_9 := n1_; have BK156 := n2_; have HB := n3_; have BK157 := n4_; have GW157 := n5_; have GE157 := n6_; have NB156_157 := n7_; have NB157_156 := n8_; clear n0_ n1_ n2_ n3_ n4_ n5_ n6_ n7_ n8_; clear hb hbox hg) | ((with_reducible refine gate_dst (N := 6) rfl ?_); refine box_event ?hg (N := 6) ?hd (cs := #[.int .i64 0, .int .i64 0, .int .i64 0, .string (⟨#[]⟩ : ByteArray), .int .i64 0, .int .i64 0, .int .i64 0, .int .i64 0, .string (⟨#[]⟩ : ByteArray), .slice none 0 0]) (t := 31) ?hr ?_; (case hd => rfl); (case hg => rfl); (case hr => first | (go_simp; done) | (go_simp; rfl)); intro gb158 hg w6 hbox hb; have n0_ := Aside0.mk (Kd.V_below (Kd.V_elderB (by (with_reducible repeat (first | apply Kd.V_alloc | apply Kd.V_drewN | apply Kd.V_drew)); exact HO1_9.out) gb158 (Nat.le_of_eq hg.symm)) hb); have n1_ := Aside0.mk (Kd.V_below (Kd.V_elderB (by (with_reducible repeat (first | apply Kd.V_alloc | apply Kd.V_drewN | apply Kd.V_drew)); exact HO2_9.out) gb158 (Nat.le_of_eq hg.symm)) hb); have n2_ := Aside0.mk (blk_below (g := gb156) (o := .cells #[.int .i64 a1_0, .int .i64 a1_1, .int .i64 a1_2, .string a1_3, .int .i64 a1_4, .int .i64 a1_5, .int .i64 a1_6, .int .i64 a1_7, .string a1_8, .slice A1_9 l1_9.length c1_9] 31 (0, 0)) (zB BK156.out) hb); have n3_ := Aside0.mk (blk_below (g := gb157) (o := .cells #[.int .i64 a2_0, .int .i64 a2_1, .int .i64 a2_2, .string a2_3, .int .i64 a2_4, .int .i64 a2_5, .int .i64 a2_6, .int .i64 a2_7, .string a2_8, .slice A2_9 l2_9.length c2_9] 31 (0, 0)) (zB BK157.out) hb); have n4_ := Aside0.mk (below_step (by repeat first | with_reducible exact HB.out | apply zS | refine below_set ?_ GE156.out | refine below_set ?_ GE157.out | exact HB.out) hb); have n5_ := Aside0.mk (hbox); have n6_ := Aside0.mk ((by rw [hg]; exact (below_size (by repeat first | with_reducible exact HB.out | apply zS | refine below_set ?_ GE156.out | refine below_set ?_ GE157.out | exact HB.out)) : w.heap.size ≤ gb158)); have n7_ := n6_; have n8_ := Aside0.mk ((by rw [hg]; exact Nat.ne_of_lt (blk_lt (g := gb156) (o := .cells #[.int .i64 a1_0, .int .i64 a1_1, .int .i64 a1_2, .string a1_3, .int .i64 a1_4, .int .i64 a1_5, .int .i64 a1_6, .int .i64 a1_7, .string a1_8, .slice A1_9 l1_9.length c1_9] 31 (0, 0)) (zB BK156.out)) : gb156 ≠ gb158)); have n9_ := Aside0.mk ((by rw [hg]; exact Nat.ne_of_gt (blk_lt (g := gb156) (o := .cells #[.int .i64 a1_0, .int .i64 a1_1, .int .i64 a1_2, .string a1_3, .int .i64 a1_4, .int .i64 a1_5, .int .i64 a1_6, .int .i64 a1_7, .string a1_8, .slice A1_9 l1_9.length c1_9] 31 (0, 0)) (zB BK156.out)) : gb158 ≠ gb156)); have n10_ := Aside0.mk ((by rw [hg]; exact Nat.ne_of_lt (blk_lt (g := gb157) (o := .cells #[.int .i64 a2_0, .int .i64 a2_1, .int .i64 a2_2, .string a2_3, .int .i64 a2_4, .int .i64 a2_5, .int .i64 a2_6, .int .i64 a2_7, .string a2_8, .slice A2_9 l2_9.length c2_9] 31 (0, 0)) (zB BK157.out)) : gb157 ≠ gb158)); have n11_ := Aside0.mk ((by rw [hg]; exact Nat.ne_of_gt (blk_lt (g := gb157) (o := .cells #[.int .i64 a2_0, .int .i64 a2_1, .int .i64 a2_2, .string a2_3, .int .i64 a2_4, .int .i64 a2_5, .int .i64 a2_6, .int .i64 a2_7, .string a2_8, .slice A2_9 l2_9.length c2_9] 31 (0, 0)) (zB BK157.out)) : gb158 ≠ gb157)); clear HO1_9; clear HO2_9; clear BK156; clear BK157; clear HB; have HO1_9 := n0_; have HO2_9 := n1_; have BK156 := n2_; have BK157 := n3_; have HB := n4_; have BK158 := n5_; have GW158 := n6_; have GE158 := n7_; have NB156_158 := n8_; have NB158_156 := n9_; have NB157_158 := n10_; have NB158_157 := n11_; clear n0_ n1_ n2_ n3_ n4_ n5_ n6_ n7_ n8_ n9_ n10_ n11_; clear hb hbox hg; have hnb7 := NB156_157.out; have hnc7 := NB157_156.out; have hnb8 := NB156_158.out; have hnc8 := NB158_156.out; obtain ⟨_, _, _, _, _, _, _, _, _, _, _, _, _, _, _, _, _, _, _, _⟩ := zC10 BK156.out; have hnb10 := NB157_158.out; have hnc10 := NB158_157.out; obtain ⟨_, _, _, _, _, _, _, _, _, _, _, _, _, _, _, _, _, _, _, _⟩ := zC10 BK157.out) | ((with_reducible refine gate_dst (N := 10) rfl ?_); refine Kd.N_lit k31 _ 31 ?hg (N' := 10) ?hd (xs := ([(⟨a1_0, (⟨a1_1, a1_2, a1_3⟩ : S24), (⟨(⟨a1_4, a1_5⟩ : S26), (⟨a1_6, a1_7⟩ : S26)⟩ : S28), a1_8, l1_9⟩ : S31), (⟨a2_0, (⟨a2_1, a2_2, a2_3⟩ : S24), (⟨(⟨a2_4, a2_5⟩ : S26), (⟨a2_6, a2_7⟩ : S26)⟩ : S28), a2_8, l2_9⟩ : S31)] : List (S31))) (inner := [.int .i64 a1_0, .int .i64 a1_1, .int .i64 a1_2, .string a1_3, .int .i64 a1_4, .int .i64 a1_5, .int .i64 a1_6, .int .i64 a1_7, .string a1_8, .slice A1_9 l1_9.length c1_9, .int .i64 a2_0, .int .i64 a2_1, .int .i64 a2_2, .string a2_3, .int .i64 a2_4, .int .i64 a2_5, .int .i64 a2_6, .int .i64 a2_7, .string a2_8, .slice A2_9 l2_9.length c2_9]) (ok := (fun k_ => ((P1_9_ k_ ∨ P2_9_ k_) ∨ w.heap.size ≤ k_) ∧ k_ ≠ gb156 ∧ k_ ≠ gb157 ∧ k_ ≠ gb158)) (okp := (fun k_ => ((P1_9_ k_ ∨ P2_9_ k_) ∨ w.heap.size ≤ k_) ∧ k_ ≠ gb156 ∧ k_ ≠ gb157 ∧ k_ ≠ gb158)) ?hr ?hp (fun _ hk => hk) ((show ∀ k_, w6.heap.size ≤ k_ → (fun k_ => ((P1_9_ k_ ∨ P2_9_ k_) ∨ w.heap.size ≤ k_) ∧ k_ ≠ gb156 ∧ k_ ≠ gb157 ∧ k_ ≠ gb158) k_ from fun k_ hk => ⟨(.inr (Nat.le_trans (below_size zz16) hk)), Kd.freshB (g := gb156) (o := .cells #[.int .i64 a1_0, .int .i64 a1_1, .int .i64 a1_2, .string a1_3, .int .i64 a1_4, .int .i64 a1_5, .int .i64 a1_6, .int .i64 a1_7, .string a1_8, .slice A1_9 l1_9.length c1_9] 31 (0, 0)) (zB BK156.out) k_ hk, Kd.freshB (g := gb157) (o := .cells #[.int .i64 a2_0, .int .i64 a2_1, .int .i64 a2_2, .string a2_3, .int .i64 a2_4, .int .i64 a2_5, .int .i64 a2_6, .int .i64 a2_7, .string a2_8, .slice A2_9 l2_9.length c2_9] 31 (0, 0)) (zB BK157.out) k_ hk, Kd.freshB (g := gb158) (o := .cells #[.int .i64 0, .int .i64 0, .int .i64 0, .string (⟨#[]⟩ : ByteArray), .int .i64 0, .int .i64 0, .int .i64 0, .int .i64 0, .string (⟨#[]⟩ : ByteArray), .slice none 0 0] 31 (0, 0)) (zB BK158.out) k_ hk⟩) _ (Nat.le_refl _)) (Below.refl _ _) (Nat.le_refl _) (by simp) ?_; (case hd => rfl); (case hg => rfl); (case hr => first | (go_simp; done) | (go_simp; rfl)); (case hp => exact (Reps.c10 (show Kd.FK k31 _ _ (⟨a1_0, (⟨a1_1, a1_2, a1_3⟩ : S24), (⟨(⟨a1_4, a1_5⟩ : S26), (⟨a1_6, a1_7⟩ : S26)⟩ : S28), a1_8, l1_9⟩ : S31) [.int .i64 a1_0, .int .i64 a1_1, .int .i64 a1_2, .string a1_3, .int .i64 a1_4, .int .i64 a1_5, .int .i64 a1_6, .int .i64 a1_7, .string a1_8, .slice A1_9 l1_9.length c1_9] from (k31_mkF _ _ (⟨a1_0, (⟨a1_1, a1_2, a1_3⟩ : S24), (⟨(⟨a1_4, a1_5⟩ : S26), (⟨a1_6, a1_7⟩ : S26)⟩ : S28), a1_8, l1_9⟩ : S31) (Kd.V_reads' (Kd.V_mono (ok' := (fun k_ => ((P1_9_ k_ ∨ P2_9_ k_) ∨ w.heap.size ≤ k_) ∧ k_ ≠ gb156 ∧ k_ ≠ gb157 ∧ k_ ≠ gb158)) (HO1_9.out) (fun k_ hk => ⟨hk.1.1.1, ⟨hk.1.1.2, ⟨hk.1.2, hk.2⟩⟩⟩))).2.1 (Kd.V_F (Kd.V_mono (ok' := (fun k_ => ((P1_9_ k_ ∨ P2_9_ k_) ∨ w.heap.size ≤ k_) ∧ k_ ≠ gb156 ∧ k_ ≠ gb157 ∧ k_ ≠ gb158)) (HO1_9.out) (fun k_ hk => ⟨hk.1.1.1, ⟨hk.1.1.2, ⟨hk.1.2, hk.2⟩⟩⟩))))) (Reps.c10 (show Kd.FK k31 _ _ (⟨a2_0, (⟨a2_1, a2_2, a2_3⟩ : S24), (⟨(⟨a2_4, a2_5⟩ : S26), (⟨a2_6, a2_7⟩ : S26)⟩ : S28), a2_8, l2_9⟩ : S31) [.int .i64 a2_0, .int .i64 a2_1, .int .i64 a2_2, .string a2_3, .int .i64 a2_4, .int .i64 a2_5, .int .i64 a2_6, .int .i64 a2_7, .string a2_8, .slice A2_9 l2_9.length c2_9] from (k31_mkF _ _ (⟨a2_0, (⟨a2_1, a2_2, a2_3⟩ : S24), (⟨(⟨a2_4, a2_5⟩ : S26), (⟨a2_6, a2_7⟩ : S26)⟩ : S28), a2_8, l2_9⟩ : S31) (Kd.V_reads' (Kd.V_mono (ok' := (fun k_ => ((P1_9_ k_ ∨ P2_9_ k_) ∨ w.heap.size ≤ k_) ∧ k_ ≠ gb156 ∧ k_ ≠ gb157 ∧ k_ ≠ gb158)) (HO2_9.out) (fun k_ hk => ⟨hk.1.1.1, ⟨hk.1.1.2, ⟨hk.1.2, hk.2⟩⟩⟩))).2.1 (Kd.V_F (Kd.V_mono (ok' := (fun k_ => ((P1_9_ k_ ∨ P2_9_ k_) ∨ w.heap.size ≤ k_) ∧ k_ ≠ gb156 ∧ k_ ≠ gb157 ∧ k_ ≠ gb158)) (HO2_9.out) (fun k_ hk => ⟨hk.1.1.1, ⟨hk.1.1.2, ⟨hk.1.2, hk.2⟩⟩⟩))))) (Reps.none _ _)))); intro v160 w12 ho13 hb hg_ hnew_; clear hg_ hnew_; (first | rw [← Ny159.out] at ho13 | (simp only [Int.reduceToNat] at ho13; rw [← Ny159.out] at ho13)); have n0_ := Aside0.mk (Kd.V_elder' (by (with_reducible repeat (first | apply Kd.V_alloc | apply Kd.V_drewN | apply Kd.V_drew)); exact HO1_9.out) (Kd.N_base ho13) hb); have n1_ := Aside0.mk (Kd.V_elder' (by (with_reducible repeat (first | apply Kd.V_alloc | apply Kd.V_drewN | apply Kd.V_drew)); exact HO2_9.out) (Kd.N_base ho13) hb); have n2_ := Aside0.mk (Kd.N_lower ho13 (below_size zz16)); have n3_ := Aside0.mk (blk_below (g := gb156) (o := .cells #[.int .i64 a1_0, .int .i64 a1_1, .int .i64 a1_2, .string a1_3, .int .i64 a1_4, .int .i64 a1_5, .int .i64 a1_6, .int .i64 a1_7, .string a1_8, .slice A1_9 l1_9.length c1_9] 31 (0, 0)) (zB BK156.out) hb); have n4_ := Aside0.mk (blk_below (g := gb157) (o := .cells #[.int .i64 a2_0, .int .i64 a2_1, .int .i64 a2_2, .string a2_3, .int .i64 a2_4, .int .i64 a2_5, .int .i64 a2_6, .int .i64 a2_7, .string a2_8, .slice A2_9 l2_9.length c2_9] 31 (0, 0)) (zB BK157.out) hb); have n5_ := Aside0.mk (blk_below (g := gb158) (o := .cells #[.int .i64 0, .int .i64 0, .int .i64 0, .string (⟨#[]⟩ : ByteArray), .int .i64 0, .int .i64 0, .int .i64 0, .int .i64 0, .string (⟨#[]⟩ : ByteArray), .slice none 0 0] 31 (0, 0)) (zB BK158.out) hb); have n6_ := Aside0.mk (below_step zz16 hb); clear HO1_9; clear HO2_9; clear BK156; clear BK157; clear BK158; clear HB; have HO1_9 := n0_; have HO2_9 := n1_; have HO161 := n2_; have BK156 := n3_; have BK157 := n4_; have BK158 := n5_; have HB := n6_; clear n0_ n1_ n2_ n3_ n4_ n5_ n6_; clear hb ho13; obtain ⟨Ao14, co14, eo14⟩ := Kd.N_slice HO161.out; subst eo14; obtain ⟨_, _, _, _, _, _, _, _, _, _, _, _, _, _, _, _, _, _, _, _⟩ := zC10 BK158.out))
  refine bodyPost_ret (results_cell_row rfl _ _ gb158 31 #[.int .i64 5, .int .i64 0, .int .i64 0, .string (⟨#[]⟩ : ByteArray), .int .i64 0, .int .i64 0, .int .i64 0, .int .i64 0, .string a0, .slice Ao14 y159.length co14] (0, 0) _ rfl (by refine zB ?_; refine blk_put (cs := #[.int .i64 5, .int .i64 0, .int .i64 0, .string (⟨#[]⟩ : ByteArray), .int .i64 0, .int .i64 0, .int .i64 0, .int .i64 0, .string a0, .slice none 0 0]) ?_ 9 _ rfl; refine zB ?_; refine blk_put (cs := #[.int .i64 5, .int .i64 0, .int .i64 0, .string (⟨#[]⟩ : ByteArray), .int .i64 0, .int .i64 0, .int .i64 0, .int .i64 0, .string (⟨#[]⟩ : ByteArray), .slice none 0 0]) ?_ 8 _ rfl; refine zB ?_; refine blk_put (cs := #[.int .i64 5, .int .i64 0, .int .i64 0, .string (⟨#[]⟩ : ByteArray), .int .i64 0, .int .i64 0, .int .i64 0, .int .i64 0, .string (⟨#[]⟩ : ByteArray), .slice none 0 0]) ?_ 7 _ rfl; refine zB ?_; refine blk_put (cs := #[.int .i64 5, .int .i64 0, .int .i64 0, .string (⟨#[]⟩ : ByteArray), .int .i64 0, .int .i64 0, .int .i64 0, .int .i64 0, .string (⟨#[]⟩ : ByteArray), .slice none 0 0]) ?_ 6 _ rfl; refine zB ?_; refine blk_put (cs := #[.int .i64 5, .int .i64 0, .int .i64 0, .string (⟨#[]⟩ : ByteArray), .int .i64 0, .int .i64 0, .int .i64 0, .int .i64 0, .string (⟨#[]⟩ : ByteArray), .slice none 0 0]) ?_ 5 _ rfl; refine zB ?_; refine blk_put (cs := #[.int .i64 5, .int .i64 0, .int .i64 0, .string (⟨#[]⟩ : ByteArray), .int .i64 0, .int .i64 0, .int .i64 0, .int .i64 0, .string (⟨#[]⟩ : ByteArray), .slice none 0 0]) ?_ 4 _ rfl; refine zB ?_; refine blk_put (cs := #[.int .i64 5, .int .i64 0, .int .i64 0, .string (⟨#[]⟩ : ByteArray), .int .i64 0, .int .i64 0, .int .i64 0, .int .i64 0, .string (⟨#[]⟩ : ByteArray), .slice none 0 0]) ?_ 3 _ rfl; refine zB ?_; refine blk_put (cs := #[.int .i64 5, .int .i64 0, .int .i64 0, .string (⟨#[]⟩ : ByteArray), .int .i64 0, .int .i64 0, .int .i64 0, .int .i64 0, .string (⟨#[]⟩ : ByteArray), .slice none 0 0]) ?_ 2 _ rfl; refine zB ?_; refine blk_put (cs := #[.int .i64 5, .int .i64 0, .int .i64 0, .string (⟨#[]⟩ : ByteArray), .int .i64 0, .int .i64 0, .int .i64 0, .int .i64 0, .string (⟨#[]⟩ : ByteArray), .slice none 0 0]) ?_ 1 _ rfl; refine zB ?_; refine blk_put (cs := #[.int .i64 0, .int .i64 0, .int .i64 0, .string (⟨#[]⟩ : ByteArray), .int .i64 0, .int .i64 0, .int .i64 0, .int .i64 0, .string (⟨#[]⟩ : ByteArray), .slice none 0 0]) ?_ 0 _ rfl; refine zB ?_; exact BK158.out) Tryz.underlying31 rfl (by kernel_rfl)) rfl ?_
  exact ⟨_, by first | rfl | (simp [errW_none, errW_some] <;> rfl) | (simp [*, errW_none, errW_some] <;> rfl), by (with_reducible repeat (first | apply Kd.N_alloc | apply Kd.N_drewN | apply Kd.N_drew)); exact Kd.N_mono (Kd.N_far (p := ⟨gb158, 9, none⟩) (Kd.N_far (p := ⟨gb158, 8, none⟩) (Kd.N_far (p := ⟨gb158, 7, none⟩) (Kd.N_far (p := ⟨gb158, 6, none⟩) (Kd.N_far (p := ⟨gb158, 5, none⟩) (Kd.N_far (p := ⟨gb158, 4, none⟩) (Kd.N_far (p := ⟨gb158, 3, none⟩) (Kd.N_far (p := ⟨gb158, 2, none⟩) (Kd.N_far (p := ⟨gb158, 1, none⟩) (Kd.N_far (p := ⟨gb158, 0, none⟩) (Kd.N_mono HO161.out (fun k_ hk => (⟨hk, hk.2.2.2⟩ : _ ∧ k_ ≠ gb158))) (fun _ hk => hk.2) (.int .i64 5)) (fun _ hk => hk.2) (.int .i64 0)) (fun _ hk => hk.2) (.int .i64 0)) (fun _ hk => hk.2) (.string (⟨#[]⟩ : ByteArray))) (fun _ hk => hk.2) (.int .i64 0)) (fun _ hk => hk.2) (.int .i64 0)) (fun _ hk => hk.2) (.int .i64 0)) (fun _ hk => hk.2) (.int .i64 0)) (fun _ hk => hk.2) (.string a0)) (fun _ hk => hk.2) (.slice Ao14 y159.length co14)) (fun _ hk => hk.1.1), zz16⟩
end Go.Proofs.YtnomfbmebafolaaGreatDoor.P

namespace Go.Proofs.YtnomfbmebafolaaGreatDoor.P
open Go.RowKit Go.Proofs.YtnomfbmebafolaaGreatDoorW.PrintWords Go.Proofs.YtnomfbmebafolaaGreatDoorW.PrintLast Go.Proofs.YtnomfbmebafolaaGreatDoorW.PrintMore
open M (I64)
set_option linter.unusedVariables false
set_option linter.unusedSimpArgs false
def placeV (toks : List Tok) (en : Int) (n : Nat) : Int := match toks[n]? with | some t => t.f3 | none => en
set_option maxHeartbeats 4000000 in
set_option maxRecDepth 100000 in
theorem place_calls (g : Nat) (toks : List Tok) (en : Int) (n : Nat) (hn : n ≤ toks.length) (W : World) (hp : PS g toks en (n : Int) W) :
    Calls Tryz.prog 77 #[ptr g] W fun e W' => e = .returned (.int .i64 (placeV toks en n)) ∧ Below W.heap.size W W' := by
  obtain ⟨At, ct, c0, c1, c2, z1, hb, hF⟩ := hp.cells
  unfold placeV
  by_cases h : n < toks.length
  · rw [List.getElem?_eq_getElem h]
    obtain ⟨ad, rfl, t0, t1, t2, t3⟩ := PS.tok hF n h
    have hq : decide ((n : Int) < (toks.length : Int)) = true := decide_eq_true (by omega)
    have hq1 : ((0 : Int) ≤ (n : Int)) = True := eq_true (by omega)
    have hq2 : ((n : Int) < (toks.length : Int)) = True := eq_true (by omega)
    clear hp hb hF
    go_enter Tryz.func77, Tryz.ntmps77
    go_wp2
    repeat (go_quiet (fail); try go_wp2)
    go_ret
    exact ⟨by first | rfl | (simp; done), by first | exact Below.refl _ _ | exact pw_below_drewN (Below.refl _ _) _ | exact pw_below_drewN (pw_below_drewN (Below.refl _ _) _) _ | exact (Below.refl _ _).drew⟩
  · have he : n = toks.length := by omega
    subst he
    rw [List.getElem?_eq_none (Nat.le_refl _)]
    have hq : decide ((toks.length : Int) < (toks.length : Int)) = false := decide_eq_false (by omega)
    clear hp hb hF
    go_enter Tryz.func77, Tryz.ntmps77
    go_wp2
    repeat (go_quiet (fail); try go_wp2)
    go_ret
    exact ⟨by first | rfl | (simp; done), by first | exact Below.refl _ _ | exact pw_below_drewN (Below.refl _ _) _ | exact pw_below_drewN (pw_below_drewN (Below.refl _ _) _) _ | exact (Below.refl _ _).drew⟩
theorem fail_calls (g : Nat) (toks : List Tok) (en : Int) (n : Nat) (hn : n ≤ toks.length) (W : World) (hp : PS g toks en (n : Int) W) :
    Calls Tryz.prog 52 #[ptr g] W fun e W' => ∃ q, e = .returned (.iface 78 (ptr q)) ∧ W'.heap[q]? = some (.cells #[.int .i64 (placeV toks en n), .int .i64 13] 82 (0, 0)) ∧ W.heap.size ≤ q ∧ Below W.heap.size W W' := by
  have HP := Lib.hid hp
  have HN := Lib.hid hn
  clear hp hn
  go_enter Tryz.func52, Tryz.ntmps52
  go_wp2_with (first | (go_at_call 77; (with_reducible refine (place_calls g toks en n HN.out _ HP.out).mono ?_); rintro e w1 ⟨rfl, hb⟩; have HB := Lib.hid hb; clear hb))
  go_ret
  exact ⟨_, rfl, blk_new _ _, HB.out.size, below_alloc HB.out _⟩
def twoT (op : ByteArray) (a b : TN) : TN := ⟨5, ⟨0, 0, ⟨#[]⟩⟩, ⟨⟨0, 0⟩, ⟨0, 0⟩⟩, op, [a, b]⟩
abbrev vN (ok : Nat → Prop) (W : World) (v : Value) (l : List TN) : Prop := Kd.V k31 31 W 0 ok v l
theorem two_calls (ok : Nat → Prop) (op : ByteArray) (a b : TN) (va vb : Value) (W : World) (hok : ∀ k, W.heap.size ≤ k → ok k) (ha : vN ok W va a.f4) (hb : vN ok W vb b.f4) :
    Calls Tryz.prog 76 #[.string op, ndV a va, ndV b vb] W fun e W' => ∃ v9, e = .returned (ndV (twoT op a b) v9) ∧ vN ok W' v9 (twoT op a b).f4 ∧ Below W.heap.size W W' := by
  obtain ⟨a0, a1, a2, a3, a4⟩ := a
  obtain ⟨b0, b1, b2, b3, b4⟩ := b
  obtain ⟨A1, c1, rfl⟩ := Kd.V_slice ha
  obtain ⟨A2, c2, rfl⟩ := Kd.V_slice hb
  refine (tree_two.calls op a0 a1.f0 a1.f1 a1.f2 a2.f0.f0 a2.f0.f1 a2.f1.f0 a2.f1.f1 a3 ok A1 c1 a4 b0 b1.f0 b1.f1 b1.f2 b2.f0.f0 b2.f0.f1 b2.f1.f0 b2.f1.f1 b3 ok A2 c2 b4 _ _ _ _ _ _ _ _ _ _ W ha hb rfl).mono ?_
  rintro e W' ⟨v9, rfl, hN, hB⟩
  have hN' : Kd.N k31 31 W' W.heap.size (fun k_ => (ok k_ ∨ ok k_) ∨ W.heap.size ≤ k_) v9 [⟨a0, a1, a2, a3, a4⟩, ⟨b0, b1, b2, b3, b4⟩] := hN
  have hV : Kd.V k31 31 W' 0 (fun k_ => (ok k_ ∨ ok k_) ∨ W.heap.size ≤ k_) v9 [⟨a0, a1, a2, a3, a4⟩, ⟨b0, b1, b2, b3, b4⟩] := Kd.N_V hN'
  refine ⟨v9, rfl, Kd.V_mono hV (fun k hk => ?_), hB⟩
  rcases hk with (h | h) | h
  · exact h
  · exact h
  · exact hok k h
end Go.Proofs.YtnomfbmebafolaaGreatDoor.P

namespace Go.Proofs.YtnomfbmebafolaaGreatDoor.P
open Go.RowKit Go.Proofs.YtnomfbmebafolaaGreatDoorW.PrintWords Go.Proofs.YtnomfbmebafolaaGreatDoorW.PrintLast Go.Proofs.YtnomfbmebafolaaGreatDoorW.PrintMore
open M (I64)
set_option linter.unusedVariables false
set_option linter.unusedSimpArgs false
inductive PR where
  | ok (t : TN)
  | bad (p c : Int)
def RetOk (b : Nat) (t : TN) (W' : World) (e : Ending) : Prop := ∃ v9, e = .returned (.tuple #[ndV t v9, .nilIface]) ∧ vN (fun k => b ≤ k) W' v9 t.f4
def RetBad (b : Nat) (p c : Int) (W' : World) (e : Ending) : Prop :=
  ∃ q, e = .returned (.tuple #[ndV z31 (.slice none 0 0), .iface 78 (ptr q)]) ∧ W'.heap[q]? = some (.cells #[.int .i64 p, .int .i64 c] 82 (0, 0)) ∧ b ≤ q
def Ret (b : Nat) (r : PR) (W' : World) (e : Ending) : Prop := match r with | .ok t => RetOk b t W' e | .bad p c => RetBad b p c W' e
def Does (m : Nat) (toks : List Tok) (en : Int) (i : Int) (n : Nat) (r : PR × Nat) : Prop :=
  ∀ (g : Nat) (W : World), PS g toks en (n : Int) W → Calls Tryz.prog m #[ptr g, .int .i64 i] W fun e W' => PS g toks en (r.2 : Int) W' ∧ Bu g W W' ∧ Ret W.heap.size r.1 W' e
theorem Does.ok {m : Nat} {toks : List Tok} {en i : Int} {n n' : Nat} {t : TN} (h : Does m toks en i n (.ok t, n')) (g : Nat) (W : World) (hp : PS g toks en (n : Int) W) :
    Calls Tryz.prog m #[ptr g, .int .i64 i] W fun e W' => PS g toks en (n' : Int) W' ∧ Bu g W W' ∧ ∃ v9, e = .returned (.tuple #[ndV t v9, .nilIface]) ∧ vN (fun k => W.heap.size ≤ k) W' v9 t.f4 := h g W hp
theorem Does.bad {m : Nat} {toks : List Tok} {en i : Int} {n n' : Nat} {p c : Int} (h : Does m toks en i n (.bad p c, n')) (g : Nat) (W : World) (hp : PS g toks en (n : Int) W) :
    Calls Tryz.prog m #[ptr g, .int .i64 i] W fun e W' => PS g toks en (n' : Int) W' ∧ Bu g W W' ∧ ∃ q, e = .returned (.tuple #[ndV z31 (.slice none 0 0), .iface 78 (ptr q)]) ∧ W'.heap[q]? = some (.cells #[.int .i64 p, .int .i64 c] 82 (0, 0)) ∧ W.heap.size ≤ q := h g W hp
theorem sign_of (g : Nat) (toks : List Tok) (en : Int) (n : Nat) (hn : n ≤ toks.length) (A : Option Addr) (m c : Nat) (l : List ByteArray) (s : ByteArray) (b : Bool) (n' : Nat) (hs : signV toks n l = (s, b, n')) (hls : l.length ≤ 1000) (hlen : toks.length ≤ 1000000) (W : World) (hp : PS g toks en (n : Int) W)
    (hl : Kd.string.C W A l.length l) (hc : l.length ≤ c) (hm : m = l.length) :
    Calls Tryz.prog 75 #[ptr g, .slice A m c] W fun e W' => e = .returned (.tuple #[.string s, .bool b]) ∧ PS g toks en (n' : Int) W' ∧ Bu g W W' := by
  subst hm
  have := sign_calls g toks en n hn A c l W hp hl hc hls hlen
  rw [hs] at this
  exact this
theorem Bu.blk {g k : Nat} {W W' : World} {o : Obj} (h : Bu g W W') (hb : W.heap[k]? = some o) (hk : k ≠ g) : W'.heap[k]? = some o := (h.block k (blk_lt hb) hk).trans hb
theorem vN.bu {g : Nat} {ok : Nat → Prop} {W W' : World} {v : Value} {l : List TN} (h : vN ok W v l) (hb : Bu g W W') (hg : ∀ k, ok k → k ≠ g) : vN ok W' v l := Kd.V_step h (fun k hk hlt => hb.block k hlt (hg k hk))
theorem strC {W : World} {q : Nat} {t : TypeId} {l : List ByteArray} (h : W.heap[q]? = some (.cells (l.map Value.string).toArray t (0, 0))) (hl : l.length ≤ 1000) : Kd.string.C W (some ⟨q, 0, none⟩) l.length l := by
  refine ⟨rfl, by omega, fun _ => ⟨⟨q, 0, none⟩, rfl, fun j p hj => ⟨[.string p], rfl, rfl, fun i u hu => ?_⟩⟩⟩
  have hi : i = 0 := by
    have := (List.getElem?_eq_some_iff.1 hu).1
    simp at this; exact this
  subst hi
  simp only [List.getElem?_cons_zero, Option.some.injEq] at hu
  subst hu
  have : (⟨q, 0, none⟩ : Addr).add (j * 1 + 0) = ⟨q, j, none⟩ := by
    unfold Addr.add
    by_cases hj0 : j = 0
    · simp [hj0]
    · simp [hj0]
  show W.cell? ((⟨q, 0, none⟩ : Addr).add (j * 1 + 0)) = _
  rw [this, blk_cell h j]
  simp [hj]
theorem strC_new {W : World} {q : Nat} {t : TypeId} {cs : Array Value} {l : List ByteArray} (hq : q = W.heap.size) (hcs : cs = (l.map Value.string).toArray) (hl : l.length ≤ 1000) : Kd.string.C (W.alloc (.cells cs t (0, 0))) (some ⟨q, 0, none⟩) l.length l := by
  subst hq; subst hcs
  exact strC (blk_new _ _) hl
theorem z10 {W : World} {g : Nat} {t : TypeId} {v0 v1 v2 v3 v4 v5 v6 v7 v8 v9 : Value} (h : W.heap[g]? = some (.cells #[v0, v1, v2, v3, v4, v5, v6, v7, v8, v9] t (0, 0))) :
    (W.cell? ⟨g, 0, none⟩ = some v0 ∧ W.cell? ⟨g, 1, none⟩ = some v1 ∧ W.cell? ⟨g, 2, none⟩ = some v2 ∧ W.cell? ⟨g, 3, none⟩ = some v3 ∧ W.cell? ⟨g, 4, none⟩ = some v4 ∧ W.cell? ⟨g, 5, none⟩ = some v5 ∧ W.cell? ⟨g, 6, none⟩ = some v6 ∧ W.cell? ⟨g, 7, none⟩ = some v7 ∧ W.cell? ⟨g, 8, none⟩ = some v8 ∧ W.cell? ⟨g, 9, none⟩ = some v9) ∧
    (W.frozen? ⟨g, 0, none⟩ = false ∧ W.frozen? ⟨g, 1, none⟩ = false ∧ W.frozen? ⟨g, 2, none⟩ = false ∧ W.frozen? ⟨g, 3, none⟩ = false ∧ W.frozen? ⟨g, 4, none⟩ = false ∧ W.frozen? ⟨g, 5, none⟩ = false ∧ W.frozen? ⟨g, 6, none⟩ = false ∧ W.frozen? ⟨g, 7, none⟩ = false ∧ W.frozen? ⟨g, 8, none⟩ = false ∧ W.frozen? ⟨g, 9, none⟩ = false) := by
  exact ⟨⟨(blk_cell h 0).trans rfl, (blk_cell h 1).trans rfl, (blk_cell h 2).trans rfl, (blk_cell h 3).trans rfl, (blk_cell h 4).trans rfl, (blk_cell h 5).trans rfl, (blk_cell h 6).trans rfl, (blk_cell h 7).trans rfl, (blk_cell h 8).trans rfl, (blk_cell h 9).trans rfl⟩, blk_frozen h 0, blk_frozen h 1, blk_frozen h 2, blk_frozen h 3, blk_frozen h 4, blk_frozen h 5, blk_frozen h 6, blk_frozen h 7, blk_frozen h 8, blk_frozen h 9⟩
abbrev put10 (W : World) (g : Nat) (u0 u1 u2 u3 u4 u5 u6 u7 u8 u9 : Value) : World := (((((((((W.setCell ⟨g, 0, none⟩ u0).setCell ⟨g, 1, none⟩ u1).setCell ⟨g, 2, none⟩ u2).setCell ⟨g, 3, none⟩ u3).setCell ⟨g, 4, none⟩ u4).setCell ⟨g, 5, none⟩ u5).setCell ⟨g, 6, none⟩ u6).setCell ⟨g, 7, none⟩ u7).setCell ⟨g, 8, none⟩ u8).setCell ⟨g, 9, none⟩ u9
theorem put10_blk {W : World} {g : Nat} {t : TypeId} {v0 v1 v2 v3 v4 v5 v6 v7 v8 v9 : Value} (h : W.heap[g]? = some (.cells #[v0, v1, v2, v3, v4, v5, v6, v7, v8, v9] t (0, 0))) (u0 u1 u2 u3 u4 u5 u6 u7 u8 u9 : Value) :
    (put10 W g u0 u1 u2 u3 u4 u5 u6 u7 u8 u9).heap[g]? = some (.cells #[u0, u1, u2, u3, u4, u5, u6, u7, u8, u9] t (0, 0)) := by
  have h0 : (W.setCell ⟨g, 0, none⟩ u0).heap[g]? = some (.cells #[u0, v1, v2, v3, v4, v5, v6, v7, v8, v9] t (0, 0)) := blk_put h 0 u0 rfl
  have h1 : ((W.setCell ⟨g, 0, none⟩ u0).setCell ⟨g, 1, none⟩ u1).heap[g]? = some (.cells #[u0, u1, v2, v3, v4, v5, v6, v7, v8, v9] t (0, 0)) := blk_put h0 1 u1 rfl
  have h2 : (((W.setCell ⟨g, 0, none⟩ u0).setCell ⟨g, 1, none⟩ u1).setCell ⟨g, 2, none⟩ u2).heap[g]? = some (.cells #[u0, u1, u2, v3, v4, v5, v6, v7, v8, v9] t (0, 0)) := blk_put h1 2 u2 rfl
  have h3 : ((((W.setCell ⟨g, 0, none⟩ u0).setCell ⟨g, 1, none⟩ u1).setCell ⟨g, 2, none⟩ u2).setCell ⟨g, 3, none⟩ u3).heap[g]? = some (.cells #[u0, u1, u2, u3, v4, v5, v6, v7, v8, v9] t (0, 0)) := blk_put h2 3 u3 rfl
  have h4 : (((((W.setCell ⟨g, 0, none⟩ u0).setCell ⟨g, 1, none⟩ u1).setCell ⟨g, 2, none⟩ u2).setCell ⟨g, 3, none⟩ u3).setCell ⟨g, 4, none⟩ u4).heap[g]? = some (.cells #[u0, u1, u2, u3, u4, v5, v6, v7, v8, v9] t (0, 0)) := blk_put h3 4 u4 rfl
  have h5 : ((((((W.setCell ⟨g, 0, none⟩ u0).setCell ⟨g, 1, none⟩ u1).setCell ⟨g, 2, none⟩ u2).setCell ⟨g, 3, none⟩ u3).setCell ⟨g, 4, none⟩ u4).setCell ⟨g, 5, none⟩ u5).heap[g]? = some (.cells #[u0, u1, u2, u3, u4, u5, v6, v7, v8, v9] t (0, 0)) := blk_put h4 5 u5 rfl
  have h6 : (((((((W.setCell ⟨g, 0, none⟩ u0).setCell ⟨g, 1, none⟩ u1).setCell ⟨g, 2, none⟩ u2).setCell ⟨g, 3, none⟩ u3).setCell ⟨g, 4, none⟩ u4).setCell ⟨g, 5, none⟩ u5).setCell ⟨g, 6, none⟩ u6).heap[g]? = some (.cells #[u0, u1, u2, u3, u4, u5, u6, v7, v8, v9] t (0, 0)) := blk_put h5 6 u6 rfl
  have h7 : ((((((((W.setCell ⟨g, 0, none⟩ u0).setCell ⟨g, 1, none⟩ u1).setCell ⟨g, 2, none⟩ u2).setCell ⟨g, 3, none⟩ u3).setCell ⟨g, 4, none⟩ u4).setCell ⟨g, 5, none⟩ u5).setCell ⟨g, 6, none⟩ u6).setCell ⟨g, 7, none⟩ u7).heap[g]? = some (.cells #[u0, u1, u2, u3, u4, u5, u6, u7, v8, v9] t (0, 0)) := blk_put h6 7 u7 rfl
  have h8 : (((((((((W.setCell ⟨g, 0, none⟩ u0).setCell ⟨g, 1, none⟩ u1).setCell ⟨g, 2, none⟩ u2).setCell ⟨g, 3, none⟩ u3).setCell ⟨g, 4, none⟩ u4).setCell ⟨g, 5, none⟩ u5).setCell ⟨g, 6, none⟩ u6).setCell ⟨g, 7, none⟩ u7).setCell ⟨g, 8, none⟩ u8).heap[g]? = some (.cells #[u0, u1, u2, u3, u4, u5, u6, u7, u8, v9] t (0, 0)) := blk_put h7 8 u8 rfl
  have h9 : ((((((((((W.setCell ⟨g, 0, none⟩ u0).setCell ⟨g, 1, none⟩ u1).setCell ⟨g, 2, none⟩ u2).setCell ⟨g, 3, none⟩ u3).setCell ⟨g, 4, none⟩ u4).setCell ⟨g, 5, none⟩ u5).setCell ⟨g, 6, none⟩ u6).setCell ⟨g, 7, none⟩ u7).setCell ⟨g, 8, none⟩ u8).setCell ⟨g, 9, none⟩ u9).heap[g]? = some (.cells #[u0, u1, u2, u3, u4, u5, u6, u7, u8, u9] t (0, 0)) := blk_put h8 9 u9 rfl
  exact h9
theorem put10_old {W : World} {g k : Nat} (hk : k ≠ g) (u0 u1 u2 u3 u4 u5 u6 u7 u8 u9 : Value) : (put10 W g u0 u1 u2 u3 u4 u5 u6 u7 u8 u9).heap[k]? = W.heap[k]? := by
  have one : ∀ (V : World) (j : Nat) (u : Value), (V.setCell ⟨g, j, none⟩ u).heap[k]? = V.heap[k]? := fun V j u => Below.heap_setCell V ⟨g, j, none⟩ u k hk
  unfold put10
  rw [one, one, one, one, one, one, one, one, one, one]
theorem put10_size (W : World) (g : Nat) (u0 u1 u2 u3 u4 u5 u6 u7 u8 u9 : Value) : (put10 W g u0 u1 u2 u3 u4 u5 u6 u7 u8 u9).heap.size = W.heap.size := by simp [put10, World.setCell]
theorem put10_bu {g gr : Nat} {W0 W : World} (h : Bu g W0 W) (hr : W0.heap.size ≤ gr) (u0 u1 u2 u3 u4 u5 u6 u7 u8 u9 : Value) : Bu g W0 (put10 W gr u0 u1 u2 u3 u4 u5 u6 u7 u8 u9) := by
  have one : ∀ (V : World) (j : Nat) (u : Value), Bu g W0 V → Bu g W0 (V.setCell ⟨gr, j, none⟩ u) := fun V j u hV =>
    ⟨hV.os, hV.tape, hV.output, by simpa [World.setCell] using hV.size, fun k hk hg => (Below.heap_setCell V ⟨gr, j, none⟩ u k (by show k ≠ gr; omega)).trans (hV.block k hk hg)⟩
  have b0 : Bu g W0 (W.setCell ⟨gr, 0, none⟩ u0) := one _ 0 u0 h
  have b1 : Bu g W0 ((W.setCell ⟨gr, 0, none⟩ u0).setCell ⟨gr, 1, none⟩ u1) := one _ 1 u1 b0
  have b2 : Bu g W0 (((W.setCell ⟨gr, 0, none⟩ u0).setCell ⟨gr, 1, none⟩ u1).setCell ⟨gr, 2, none⟩ u2) := one _ 2 u2 b1
  have b3 : Bu g W0 ((((W.setCell ⟨gr, 0, none⟩ u0).setCell ⟨gr, 1, none⟩ u1).setCell ⟨gr, 2, none⟩ u2).setCell ⟨gr, 3, none⟩ u3) := one _ 3 u3 b2
  have b4 : Bu g W0 (((((W.setCell ⟨gr, 0, none⟩ u0).setCell ⟨gr, 1, none⟩ u1).setCell ⟨gr, 2, none⟩ u2).setCell ⟨gr, 3, none⟩ u3).setCell ⟨gr, 4, none⟩ u4) := one _ 4 u4 b3
  have b5 : Bu g W0 ((((((W.setCell ⟨gr, 0, none⟩ u0).setCell ⟨gr, 1, none⟩ u1).setCell ⟨gr, 2, none⟩ u2).setCell ⟨gr, 3, none⟩ u3).setCell ⟨gr, 4, none⟩ u4).setCell ⟨gr, 5, none⟩ u5) := one _ 5 u5 b4
  have b6 : Bu g W0 (((((((W.setCell ⟨gr, 0, none⟩ u0).setCell ⟨gr, 1, none⟩ u1).setCell ⟨gr, 2, none⟩ u2).setCell ⟨gr, 3, none⟩ u3).setCell ⟨gr, 4, none⟩ u4).setCell ⟨gr, 5, none⟩ u5).setCell ⟨gr, 6, none⟩ u6) := one _ 6 u6 b5
  have b7 : Bu g W0 ((((((((W.setCell ⟨gr, 0, none⟩ u0).setCell ⟨gr, 1, none⟩ u1).setCell ⟨gr, 2, none⟩ u2).setCell ⟨gr, 3, none⟩ u3).setCell ⟨gr, 4, none⟩ u4).setCell ⟨gr, 5, none⟩ u5).setCell ⟨gr, 6, none⟩ u6).setCell ⟨gr, 7, none⟩ u7) := one _ 7 u7 b6
  have b8 : Bu g W0 (((((((((W.setCell ⟨gr, 0, none⟩ u0).setCell ⟨gr, 1, none⟩ u1).setCell ⟨gr, 2, none⟩ u2).setCell ⟨gr, 3, none⟩ u3).setCell ⟨gr, 4, none⟩ u4).setCell ⟨gr, 5, none⟩ u5).setCell ⟨gr, 6, none⟩ u6).setCell ⟨gr, 7, none⟩ u7).setCell ⟨gr, 8, none⟩ u8) := one _ 8 u8 b7
  have b9 : Bu g W0 ((((((((((W.setCell ⟨gr, 0, none⟩ u0).setCell ⟨gr, 1, none⟩ u1).setCell ⟨gr, 2, none⟩ u2).setCell ⟨gr, 3, none⟩ u3).setCell ⟨gr, 4, none⟩ u4).setCell ⟨gr, 5, none⟩ u5).setCell ⟨gr, 6, none⟩ u6).setCell ⟨gr, 7, none⟩ u7).setCell ⟨gr, 8, none⟩ u8).setCell ⟨gr, 9, none⟩ u9) := one _ 9 u9 b8
  exact b9
theorem put10_ps {g gr : Nat} {toks : List Tok} {en at_ : Int} {W : World} (h : PS g toks en at_ W) (hr : g < gr) (u0 u1 u2 u3 u4 u5 u6 u7 u8 u9 : Value) : PS g toks en at_ (put10 W gr u0 u1 u2 u3 u4 u5 u6 u7 u8 u9) := by
  obtain ⟨A, c, h1, h2, gw, h3, h4, h5⟩ := h
  exact ⟨A, c, (put10_old (by omega) ..).trans h1, Kd.F_step h2 (fun k hk _ => put10_old (by omega) ..), gw, h3, Below.of_bu (g := g) (put10_bu (g := g) (Bu.of_below h4) (by omega) ..) h5, h5⟩
theorem put10_vN {gr : Nat} {ok : Nat → Prop} {W : World} {v : Value} {l : List TN} (h : vN ok W v l) (hr : ∀ k, ok k → k ≠ gr) (u0 u1 u2 u3 u4 u5 u6 u7 u8 u9 : Value) : vN ok (put10 W gr u0 u1 u2 u3 u4 u5 u6 u7 u8 u9) v l :=
  Kd.V_step h (fun k hk _ => put10_old (hr k hk) ..)
theorem blk_alloc_old (W : World) (o : Obj) {k : Nat} (h : k < W.heap.size) : (W.alloc o).heap[k]? = W.heap[k]? := by
  show (W.heap.push o)[k]? = _
  rw [Array.getElem?_push, if_neg (by omega)]
theorem vN_one {ok : Nat → Prop} {W : World} {a : TN} {va : Value} {q : Nat} (hq : q = W.heap.size) (hok : ok W.heap.size) (h : vN ok W va a.f4) :
    vN ok (W.alloc (.cells #[.int .i64 a.f0, .int .i64 a.f1.f0, .int .i64 a.f1.f1, .string a.f1.f2, .int .i64 a.f2.f0.f0, .int .i64 a.f2.f0.f1, .int .i64 a.f2.f1.f0, .int .i64 a.f2.f1.f1, .string a.f3, va] 31 (0, 0))) (.slice (some ⟨q, 0, none⟩) 1 1) [a] := by
  subst hq
  obtain ⟨A, c, rfl, hl, hF⟩ := h
  refine ⟨some ⟨W.heap.size, 0, none⟩, 1, rfl, Nat.le_refl _, fun W' hW => ?_⟩
  have hs : (W.alloc (.cells #[.int .i64 a.f0, .int .i64 a.f1.f0, .int .i64 a.f1.f1, .string a.f1.f2, .int .i64 a.f2.f0.f0, .int .i64 a.f2.f0.f1, .int .i64 a.f2.f1.f0, .int .i64 a.f2.f1.f1, .string a.f3, .slice A a.f4.length c] 31 (0, 0))).heap.size = W.heap.size + 1 := by simp
  have hC : Kd.C k31 W' A a.f4.length a.f4 := hF W' (fun k hk hlt => (hW k hk (by omega)).trans (blk_alloc_old W _ hlt))
  have hb := (hW W.heap.size hok (by omega)).trans (blk_new W _)
  refine ⟨rfl, by simp, fun _ => ⟨⟨W.heap.size, 0, none⟩, rfl, fun j p hj => ?_⟩⟩
  have hj0 : j = 0 := by
    have := (List.getElem?_eq_some_iff.1 hj).1
    simp at this; exact this
  subst hj0
  simp only [List.getElem?_cons_zero, Option.some.injEq] at hj
  subst hj
  refine ⟨_, rfl, k31_mk W' a hl hC, fun i u hu => ?_⟩
  have ha : (⟨W.heap.size, 0, none⟩ : Addr).add (0 * 10 + i) = ⟨W.heap.size, i, none⟩ := by
    unfold Addr.add
    by_cases hi : i = 0
    · simp [hi]
    · simp [hi]
  show W'.cell? ((⟨W.heap.size, 0, none⟩ : Addr).add (0 * 10 + i)) = _
  rw [ha, blk_cell hb i, ← hu]
  simp
end Go.Proofs.YtnomfbmebafolaaGreatDoor.P

namespace Go.Proofs.YtnomfbmebafolaaGreatDoor.P
open Go.RowKit Go.Proofs.YtnomfbmebafolaaGreatDoorW.PrintWords Go.Proofs.YtnomfbmebafolaaGreatDoorW.PrintLast Go.Proofs.YtnomfbmebafolaaGreatDoorW.PrintMore
open M (I64)
set_option linter.unusedVariables false
set_option linter.unusedSimpArgs false
abbrev nd0 : Obj := .cells #[.int .i64 0, .int .i64 0, .int .i64 0, .string (⟨#[]⟩ : ByteArray), .int .i64 0, .int .i64 0, .int .i64 0, .int .i64 0, .string (⟨#[]⟩ : ByteArray), .slice none 0 0] 31 (0, 0)
abbrev ndO (t : TN) (v9 : Value) : Obj := .cells #[.int .i64 t.f0, .int .i64 t.f1.f0, .int .i64 t.f1.f1, .string t.f1.f2, .int .i64 t.f2.f0.f0, .int .i64 t.f2.f0.f1, .int .i64 t.f2.f1.f0, .int .i64 t.f2.f1.f1, .string t.f3, v9] 31 (0, 0)
theorem PS.alloc {g : Nat} {toks : List Tok} {en at_ : Int} {W : World} (h : PS g toks en at_ W) (o : Obj) : PS g toks en at_ (W.alloc o) := h.below (below_alloc (Below.refl _ _) o)
theorem Bu.alloc (g : Nat) (W : World) (o : Obj) : Bu g W (W.alloc o) := .of_below (below_alloc (Below.refl _ _) o)
theorem Bu.to_alloc {g : Nat} {W V : World} (h : Bu g W V) (o : Obj) : Bu g W (V.alloc o) := h.trans (Bu.alloc g V o)
theorem lo {g q : Nat} {o : Obj} {W X : World} (h : Bu g (W.alloc o) X) (hq : X.heap.size ≤ q) : W.heap.size < q := by
  have h1 := h.size
  have h2 : (W.alloc o).heap.size = W.heap.size + 1 := by simp
  omega
theorem Uq1 {p q : Prop} (h0 : p) (h : p → q := by intro h_; with_reducible repeat (first | exact h_ | refine PS.alloc ?_ _)) : q := h h0
theorem Uq2 {p q : Prop} (h0 : p) (h : p → q := by intro h_; with_reducible repeat (first | exact h_ | exact Bu.refl _ _ | refine Bu.to_alloc ?_ _)) : q := h h0
theorem Uq3 {p q : Prop} (h0 : p) (h : p → q := by intro h_; with_reducible repeat (first | exact h_ | exact blk_new _ _ | refine blk_alloc ?_ _)) : q := h h0
theorem Uq4 {p q : Prop} (h0 : p) (h : p → q := by intro h_; with_reducible repeat (first | exact put10_blk h_ _ _ _ _ _ _ _ _ _ _ | refine blk_alloc ?_ _)) : q := h h0
theorem Uq5 {p q : Prop} (h0 : p) (h : p → q := by intro h_; with_reducible repeat (first | exact h_ | refine PS.alloc ?_ _ | refine put10_ps ?_ HG.out _ _ _ _ _ _ _ _ _ _)) : q := h h0
theorem Uq6 {p q : Prop} (h0 : p) (h : p → q := by intro h_; with_reducible repeat (first | exact (Bu.alloc g W nd0).trans h_ | refine Bu.to_alloc ?_ _ | refine put10_bu ?_ (Nat.le_refl _) _ _ _ _ _ _ _ _ _ _)) : q := h h0
theorem Uq7 {p q : Prop} (h0 : p) (h : p → q := by intro h_; with_reducible repeat (first | exact h_ | refine blk_alloc ?_ _ | refine (put10_old (Nat.ne_of_gt HQ.out) _ _ _ _ _ _ _ _ _ _).trans ?_)) : q := h h0
theorem Uq8 {p q : Prop} (h0 : p) (h : p → q := by intro h_; with_reducible repeat (first | exact h_ | refine Kd.V_alloc ?_ _)) : q := h h0
theorem Uq9 {p q : Prop} (h0 : p) (h : p → q := by intro h_; with_reducible repeat (first | exact h_ | refine Kd.V_alloc ?_ _ | refine put10_vN ?_ (fun k hk => Nat.ne_of_gt hk) _ _ _ _ _ _ _ _ _ _)) : q := h h0
set_option maxHeartbeats 8000000 in
set_option maxRecDepth 100000 in
theorem within_bad (toks : List Tok) (en i : Int) (n : Nat) (n1 : Nat) (p c : Int) (hi : 0 ≤ i ∧ i ≤ 1000) (hf : Does 51 toks en (i + 1) n (.bad p c, n1)) : Does 135 toks en i n (.bad p c, n1) := by
  intro g W hp
  have hu := Tryz.underlying31
  have HG := Lib.hid hp.lt
  have HP0 := Lib.hid (hp.alloc nd0)
  have HB0 := Lib.hid (Bu.refl g (W.alloc nd0))
  have BK0 := Lib.hid (blk_new W nd0)
  have HPW := Lib.hid hp
  clear hp
  have w1 : IntKind.i64.wrap (i + 1) = i + 1 := by rw [i64_w, M.wrap64_id (by unfold I64; omega)]
  have HF := Lib.hid hf
  clear hf
  clear hi
  go_enter Tryz.func135, Tryz.ntmps135
  go_wp2_with (first | (go_at_call 51; (with_reducible refine (HF.out.bad g _ ?sp).mono ?_); (case sp => exact (Uq1 HP0.out)); rintro e w1 ⟨hp, hb, q, rfl, he, hq⟩; have HE := Lib.hid he; have HQ := Lib.hid (lo (g := g) (o := nd0) (W := W) (Uq2 HB0.out) hq); clear he hq; have HP1 := Lib.hid hp; have HB1 := Lib.hid (Bu.trans (g := g) (a := W.alloc nd0) (Uq2 HB0.out) hb); have BK1 := Lib.hid (hb.blk (k := W.heap.size) (o := nd0) (Uq3 BK0.out) (Nat.ne_of_gt HG.out)); clear hp hb; (try clear c0 c1 c2 c3 c4 c5 c6 c7 c8 c9 z0 z1 z2 z3 z4 z5 z6 z7 z8 z9 hsz); obtain ⟨⟨c0, c1, c2, c3, c4, c5, c6, c7, c8, c9⟩, z0, z1, z2, z3, z4, z5, z6, z7, z8, z9⟩ := z10 BK1.out; have hsz : W.heap.size < w1.heap.size := blk_lt BK1.out; have HZ1 := Lib.hid hsz))
  refine bodyPost_ret (results_ct rfl _ _ W.heap.size 31 _ (0, 0) _ rfl (Uq4 BK1.out) hu rfl (by kernel_rfl)) rfl ?_
  refine ⟨?_, ?_, q, ?_, ?_, Nat.le_of_lt HQ.out⟩
  · exact (Uq5 HP1.out)
  · exact (Uq6 HB1.out)
  · rfl
  · exact (Uq7 HE.out)
set_option maxHeartbeats 8000000 in
set_option maxRecDepth 100000 in
theorem within_open (toks : List Tok) (en i : Int) (n : Nat) (n1 : Nat) (a : TN) (hi : 0 ≤ i ∧ i ≤ 1000) (hf : Does 51 toks en (i + 1) n (.ok a, n1)) (s : ByteArray) (n2 : Nat) (hs : signV toks n1 [⟨#[41]⟩] = (s, false, n2)) (hn : n1 ≤ toks.length) (hlen : toks.length ≤ 1000000) (hn2 : n2 ≤ toks.length) : Does 135 toks en i n (.bad (placeV toks en n2) 13, n2) := by
  intro g W hp
  have hu := Tryz.underlying31
  have HG := Lib.hid hp.lt
  have HP0 := Lib.hid (hp.alloc nd0)
  have HB0 := Lib.hid (Bu.refl g (W.alloc nd0))
  have BK0 := Lib.hid (blk_new W nd0)
  have HPW := Lib.hid hp
  clear hp
  have w1 : IntKind.i64.wrap (i + 1) = i + 1 := by rw [i64_w, M.wrap64_id (by unfold I64; omega)]
  have HF := Lib.hid hf
  have HS := Lib.hid hs
  have HN := Lib.hid hn
  have HLEN := Lib.hid hlen
  have HM := Lib.hid hn2
  clear hf hs hn hlen hn2
  clear hi
  go_enter Tryz.func135, Tryz.ntmps135
  go_wp2_with (first | (go_at_call 51; (fail_if_success have := HP1); (with_reducible refine (HF.out.ok g _ ?sp).mono ?_); (case sp => exact (Uq1 HP0.out)); rintro e w1 ⟨hp, hb, v1, rfl, hv⟩; obtain ⟨AA1, kk1, rfl⟩ := Kd.V_slice hv; have HV1 := Lib.hid (Kd.V_mono hv (fun k hk => lo (g := g) (o := nd0) (W := W) (Uq2 HB0.out) hk)); clear hv; have HP1 := Lib.hid hp; have HB1 := Lib.hid (Bu.trans (g := g) (a := W.alloc nd0) (Uq2 HB0.out) hb); have BK1 := Lib.hid (hb.blk (k := W.heap.size) (o := nd0) (Uq3 BK0.out) (Nat.ne_of_gt HG.out)); clear hp hb; (try clear c0 c1 c2 c3 c4 c5 c6 c7 c8 c9 z0 z1 z2 z3 z4 z5 z6 z7 z8 z9 hsz); obtain ⟨⟨c0, c1, c2, c3, c4, c5, c6, c7, c8, c9⟩, z0, z1, z2, z3, z4, z5, z6, z7, z8, z9⟩ := z10 BK1.out; have hsz : W.heap.size < w1.heap.size := blk_lt BK1.out; have HZ1 := Lib.hid hsz) | (go_at_call 75; (with_reducible refine (sign_of g toks en _ HN.out _ _ _ _ _ _ _ HS.out ?s1 HLEN.out _ ?sp ?s2 ?s3 ?s4).mono ?_); (case sp => exact (Uq1 HP1.out)); (case s1 => decide); (case s2 => exact strC_new (by simp) rfl (by decide)); (case s3 => decide); (case s4 => rfl); rintro e w2 ⟨rfl, hp, hb⟩; have HP2 := Lib.hid hp; have HB2 := Lib.hid (Bu.trans (g := g) (a := W.alloc nd0) (Uq2 HB1.out) hb); have BK2 := Lib.hid (hb.blk (k := W.heap.size) (o := nd0) (Uq3 BK1.out) (Nat.ne_of_gt HG.out)); clear hp hb; (try clear c0 c1 c2 c3 c4 c5 c6 c7 c8 c9 z0 z1 z2 z3 z4 z5 z6 z7 z8 z9 hsz); obtain ⟨⟨c0, c1, c2, c3, c4, c5, c6, c7, c8, c9⟩, z0, z1, z2, z3, z4, z5, z6, z7, z8, z9⟩ := z10 BK2.out; have hsz : W.heap.size < w2.heap.size := blk_lt BK2.out; have HZ2 := Lib.hid hsz) | (go_at_call 52; (with_reducible refine (fail_calls g toks en n2 HM.out _ ?sp).mono ?_); (case sp => exact (Uq1 HP2.out)); rintro e w3 ⟨q, rfl, he, hq, hbl⟩; have HE := Lib.hid he; have HQ := Lib.hid (lo (g := g) (o := nd0) (W := W) (Uq2 HB2.out) hq); have hb := Bu.of_below (g := g) hbl; have hp := PS.below (g := g) (toks := toks) (en := en) (at_ := (n2 : Int)) (Uq1 HP2.out) hbl; clear he hq hbl; have HP3 := Lib.hid hp; have HB3 := Lib.hid (Bu.trans (g := g) (a := W.alloc nd0) (Uq2 HB2.out) hb); have BK3 := Lib.hid (hb.blk (k := W.heap.size) (o := nd0) (Uq3 BK2.out) (Nat.ne_of_gt HG.out)); clear hp hb; (try clear c0 c1 c2 c3 c4 c5 c6 c7 c8 c9 z0 z1 z2 z3 z4 z5 z6 z7 z8 z9 hsz); obtain ⟨⟨c0, c1, c2, c3, c4, c5, c6, c7, c8, c9⟩, z0, z1, z2, z3, z4, z5, z6, z7, z8, z9⟩ := z10 BK3.out; have hsz : W.heap.size < w3.heap.size := blk_lt BK3.out; have HZ3 := Lib.hid hsz))
  refine bodyPost_ret (results_ct rfl _ _ W.heap.size 31 _ (0, 0) _ rfl (Uq4 BK3.out) hu rfl (by kernel_rfl)) rfl ?_
  refine ⟨?_, ?_, q, ?_, ?_, Nat.le_of_lt HQ.out⟩
  · exact (Uq5 HP3.out)
  · exact (Uq6 HB3.out)
  · rfl
  · exact (Uq7 HE.out)
set_option maxHeartbeats 8000000 in
set_option maxRecDepth 100000 in
theorem within_ok (toks : List Tok) (en i : Int) (n : Nat) (n1 : Nat) (a : TN) (hi : 0 ≤ i ∧ i ≤ 1000) (hf : Does 51 toks en (i + 1) n (.ok a, n1)) (s : ByteArray) (n2 : Nat) (hs : signV toks n1 [⟨#[41]⟩] = (s, true, n2)) (hn : n1 ≤ toks.length) (hlen : toks.length ≤ 1000000) : Does 135 toks en i n (.ok a, n2) := by
  intro g W hp
  have hu := Tryz.underlying31
  have HG := Lib.hid hp.lt
  have HP0 := Lib.hid (hp.alloc nd0)
  have HB0 := Lib.hid (Bu.refl g (W.alloc nd0))
  have BK0 := Lib.hid (blk_new W nd0)
  have HPW := Lib.hid hp
  clear hp
  have w1 : IntKind.i64.wrap (i + 1) = i + 1 := by rw [i64_w, M.wrap64_id (by unfold I64; omega)]
  have HF := Lib.hid hf
  have HS := Lib.hid hs
  have HN := Lib.hid hn
  have HLEN := Lib.hid hlen
  clear hf hs hn hlen
  clear hi
  go_enter Tryz.func135, Tryz.ntmps135
  go_wp2_with (first | (go_at_call 51; (fail_if_success have := HP1); (with_reducible refine (HF.out.ok g _ ?sp).mono ?_); (case sp => exact (Uq1 HP0.out)); rintro e w1 ⟨hp, hb, v1, rfl, hv⟩; obtain ⟨AA1, kk1, rfl⟩ := Kd.V_slice hv; have HV1 := Lib.hid (Kd.V_mono hv (fun k hk => lo (g := g) (o := nd0) (W := W) (Uq2 HB0.out) hk)); clear hv; have HP1 := Lib.hid hp; have HB1 := Lib.hid (Bu.trans (g := g) (a := W.alloc nd0) (Uq2 HB0.out) hb); have BK1 := Lib.hid (hb.blk (k := W.heap.size) (o := nd0) (Uq3 BK0.out) (Nat.ne_of_gt HG.out)); clear hp hb; (try clear c0 c1 c2 c3 c4 c5 c6 c7 c8 c9 z0 z1 z2 z3 z4 z5 z6 z7 z8 z9 hsz); obtain ⟨⟨c0, c1, c2, c3, c4, c5, c6, c7, c8, c9⟩, z0, z1, z2, z3, z4, z5, z6, z7, z8, z9⟩ := z10 BK1.out; have hsz : W.heap.size < w1.heap.size := blk_lt BK1.out; have HZ1 := Lib.hid hsz) | (go_at_call 75; (with_reducible refine (sign_of g toks en _ HN.out _ _ _ _ _ _ _ HS.out ?s1 HLEN.out _ ?sp ?s2 ?s3 ?s4).mono ?_); (case sp => exact (Uq1 HP1.out)); (case s1 => decide); (case s2 => exact strC_new (by simp) rfl (by decide)); (case s3 => decide); (case s4 => rfl); rintro e w2 ⟨rfl, hp, hb⟩; have HV1b := Lib.hid (vN.bu (ok := fun k => W.heap.size < k) (v := .slice AA1 a.f4.length kk1) (l := a.f4) (Uq8 HV1.out) hb (fun k hk => Nat.ne_of_gt (Nat.lt_trans HG.out hk))); have HP2 := Lib.hid hp; have HB2 := Lib.hid (Bu.trans (g := g) (a := W.alloc nd0) (Uq2 HB1.out) hb); have BK2 := Lib.hid (hb.blk (k := W.heap.size) (o := nd0) (Uq3 BK1.out) (Nat.ne_of_gt HG.out)); have BA := Lib.hid (hb.blk (k := w1.heap.size) (o := ndO a (.slice AA1 a.f4.length kk1)) (Uq3 BK1.out) (Nat.ne_of_gt (Nat.lt_trans HG.out HZ1.out))); clear hp hb; (try clear c0 c1 c2 c3 c4 c5 c6 c7 c8 c9 z0 z1 z2 z3 z4 z5 z6 z7 z8 z9 hsz); obtain ⟨⟨c0, c1, c2, c3, c4, c5, c6, c7, c8, c9⟩, z0, z1, z2, z3, z4, z5, z6, z7, z8, z9⟩ := z10 BK2.out; have hsz : W.heap.size < w2.heap.size := blk_lt BK2.out; have HZ2 := Lib.hid hsz; obtain ⟨⟨d0_0, d0_1, d0_2, d0_3, d0_4, d0_5, d0_6, d0_7, d0_8, d0_9⟩, -⟩ := z10 BA.out; have hd0_ := blk_lt BA.out))
  refine bodyPost_ret (results_ct rfl _ _ W.heap.size 31 _ (0, 0) _ rfl (Uq4 BK2.out) hu rfl (by kernel_rfl)) rfl ?_
  refine ⟨?_, ?_, (.slice AA1 a.f4.length kk1), ?_, Kd.V_mono ?_ (fun k hk => Nat.le_of_lt hk)⟩
  · exact (Uq5 HP2.out)
  · exact (Uq6 HB2.out)
  · rfl
  · exact (Uq9 HV1b.out)
end Go.Proofs.YtnomfbmebafolaaGreatDoor.P

namespace Go.Proofs.YtnomfbmebafolaaGreatDoor.P
open Go.RowKit Go.Proofs.YtnomfbmebafolaaGreatDoorW.PrintWords Go.Proofs.YtnomfbmebafolaaGreatDoorW.PrintLast Go.Proofs.YtnomfbmebafolaaGreatDoorW.PrintMore
open M (I64)
set_option linter.unusedVariables false
set_option linter.unusedSimpArgs false
set_option maxHeartbeats 8000000 in
set_option maxRecDepth 100000 in
theorem unary_deep (toks : List Tok) (en i : Int) (n : Nat) (hd : 40 < i) : Does 125 toks en i n (.bad 0 14, n) := by
  intro g W hp
  have hu := Tryz.underlying31
  have HG := Lib.hid hp.lt
  have HP0 := Lib.hid (hp.alloc nd0)
  have HB0 := Lib.hid (Bu.refl g (W.alloc nd0))
  have BK0 := Lib.hid (blk_new W nd0)
  have HPW := Lib.hid hp
  clear hp
  have HD := Lib.hid hd
  clear hd
  go_enter Tryz.func125, Tryz.ntmps125
  go_wp2_with (first | (go_at_call 73; (with_reducible refine (deep_yes _ _ HD.out).mono ?_); rintro e w1 ⟨q, rfl, he, hq, hbl⟩; have HE := Lib.hid he; have HQ := Lib.hid (lo (g := g) (o := nd0) (W := W) (Uq2 HB0.out) hq); have hb := Bu.of_below (g := g) hbl; have hp := PS.below (g := g) (toks := toks) (en := en) (at_ := (n : Int)) (Uq1 HP0.out) hbl; clear he hq hbl; have HP1 := Lib.hid hp; have HB1 := Lib.hid (Bu.trans (g := g) (a := W.alloc nd0) (Uq2 HB0.out) hb); have BK1 := Lib.hid (hb.blk (k := W.heap.size) (o := nd0) (Uq3 BK0.out) (Nat.ne_of_gt HG.out)); clear hp hb; (try clear c0 c1 c2 c3 c4 c5 c6 c7 c8 c9 z0 z1 z2 z3 z4 z5 z6 z7 z8 z9 hsz); obtain ⟨⟨c0, c1, c2, c3, c4, c5, c6, c7, c8, c9⟩, z0, z1, z2, z3, z4, z5, z6, z7, z8, z9⟩ := z10 BK1.out; have hsz : W.heap.size < w1.heap.size := blk_lt BK1.out; have HZ1 := Lib.hid hsz))
  refine bodyPost_ret (results_ct rfl _ _ W.heap.size 31 _ (0, 0) _ rfl (Uq4 BK1.out) hu rfl (by kernel_rfl)) rfl ?_
  refine ⟨?_, ?_, q, ?_, ?_, Nat.le_of_lt HQ.out⟩
  · exact (Uq5 HP1.out)
  · exact (Uq6 HB1.out)
  · rfl
  · exact (Uq7 HE.out)
set_option maxHeartbeats 8000000 in
set_option maxRecDepth 100000 in
theorem power_deep (toks : List Tok) (en i : Int) (n : Nat) (hd : 40 < i) : Does 109 toks en i n (.bad 0 14, n) := by
  intro g W hp
  have hu := Tryz.underlying31
  have HG := Lib.hid hp.lt
  have HP0 := Lib.hid (hp.alloc nd0)
  have HB0 := Lib.hid (Bu.refl g (W.alloc nd0))
  have BK0 := Lib.hid (blk_new W nd0)
  have HPW := Lib.hid hp
  clear hp
  have HD := Lib.hid hd
  clear hd
  go_enter Tryz.func109, Tryz.ntmps109
  go_wp2_with (first | (go_at_call 73; (with_reducible refine (deep_yes _ _ HD.out).mono ?_); rintro e w1 ⟨q, rfl, he, hq, hbl⟩; have HE := Lib.hid he; have HQ := Lib.hid (lo (g := g) (o := nd0) (W := W) (Uq2 HB0.out) hq); have hb := Bu.of_below (g := g) hbl; have hp := PS.below (g := g) (toks := toks) (en := en) (at_ := (n : Int)) (Uq1 HP0.out) hbl; clear he hq hbl; have HP1 := Lib.hid hp; have HB1 := Lib.hid (Bu.trans (g := g) (a := W.alloc nd0) (Uq2 HB0.out) hb); have BK1 := Lib.hid (hb.blk (k := W.heap.size) (o := nd0) (Uq3 BK0.out) (Nat.ne_of_gt HG.out)); clear hp hb; (try clear c0 c1 c2 c3 c4 c5 c6 c7 c8 c9 z0 z1 z2 z3 z4 z5 z6 z7 z8 z9 hsz); obtain ⟨⟨c0, c1, c2, c3, c4, c5, c6, c7, c8, c9⟩, z0, z1, z2, z3, z4, z5, z6, z7, z8, z9⟩ := z10 BK1.out; have hsz : W.heap.size < w1.heap.size := blk_lt BK1.out; have HZ1 := Lib.hid hsz))
  refine bodyPost_ret (results_ct rfl _ _ W.heap.size 31 _ (0, 0) _ rfl (Uq4 BK1.out) hu rfl (by kernel_rfl)) rfl ?_
  refine ⟨?_, ?_, q, ?_, ?_, Nat.le_of_lt HQ.out⟩
  · exact (Uq5 HP1.out)
  · exact (Uq6 HB1.out)
  · rfl
  · exact (Uq7 HE.out)
set_option maxHeartbeats 8000000 in
set_option maxRecDepth 100000 in
theorem formula_deep (toks : List Tok) (en i : Int) (n : Nat) (hd : 40 < i) : Does 51 toks en i n (.bad 0 14, n) := by
  intro g W hp
  have hu := Tryz.underlying31
  have HG := Lib.hid hp.lt
  have HP0 := Lib.hid (hp.alloc nd0)
  have HB0 := Lib.hid (Bu.refl g (W.alloc nd0))
  have BK0 := Lib.hid (blk_new W nd0)
  have HPW := Lib.hid hp
  clear hp
  have HD := Lib.hid hd
  clear hd
  go_enter Tryz.func51, Tryz.ntmps51
  go_wp2_with (first | (go_at_call 73; (with_reducible refine (deep_yes _ _ HD.out).mono ?_); rintro e w1 ⟨q, rfl, he, hq, hbl⟩; have HE := Lib.hid he; have HQ := Lib.hid (lo (g := g) (o := nd0) (W := W) (Uq2 HB0.out) hq); have hb := Bu.of_below (g := g) hbl; have hp := PS.below (g := g) (toks := toks) (en := en) (at_ := (n : Int)) (Uq1 HP0.out) hbl; clear he hq hbl; have HP1 := Lib.hid hp; have HB1 := Lib.hid (Bu.trans (g := g) (a := W.alloc nd0) (Uq2 HB0.out) hb); have BK1 := Lib.hid (hb.blk (k := W.heap.size) (o := nd0) (Uq3 BK0.out) (Nat.ne_of_gt HG.out)); clear hp hb; (try clear c0 c1 c2 c3 c4 c5 c6 c7 c8 c9 z0 z1 z2 z3 z4 z5 z6 z7 z8 z9 hsz); obtain ⟨⟨c0, c1, c2, c3, c4, c5, c6, c7, c8, c9⟩, z0, z1, z2, z3, z4, z5, z6, z7, z8, z9⟩ := z10 BK1.out; have hsz : W.heap.size < w1.heap.size := blk_lt BK1.out; have HZ1 := Lib.hid hsz))
  refine bodyPost_ret (results_ct rfl _ _ W.heap.size 31 _ (0, 0) _ rfl (Uq4 BK1.out) hu rfl (by kernel_rfl)) rfl ?_
  refine ⟨?_, ?_, q, ?_, ?_, Nat.le_of_lt HQ.out⟩
  · exact (Uq5 HP1.out)
  · exact (Uq6 HB1.out)
  · rfl
  · exact (Uq7 HE.out)
set_option maxHeartbeats 8000000 in
set_option maxRecDepth 100000 in
theorem unary_pbad (toks : List Tok) (en i : Int) (n : Nat) (n2 : Nat) (p c : Int) (hd : ¬ 40 < i) (hi : 0 ≤ i) (s : ByteArray) (n1 : Nat) (hs : signV toks n [⟨#[45]⟩] = (s, false, n1)) (hn : n ≤ toks.length) (hlen : toks.length ≤ 1000000) (hf : Does 132 toks en i n1 (.bad p c, n2)) : Does 125 toks en i n (.bad p c, n2) := by
  intro g W hp
  have hu := Tryz.underlying31
  have HG := Lib.hid hp.lt
  have HP0 := Lib.hid (hp.alloc nd0)
  have HB0 := Lib.hid (Bu.refl g (W.alloc nd0))
  have BK0 := Lib.hid (blk_new W nd0)
  have HPW := Lib.hid hp
  clear hp
  have HD := Lib.hid hd
  have HF := Lib.hid hf
  have HS := Lib.hid hs
  have HN := Lib.hid hn
  have HLEN := Lib.hid hlen
  clear hd hf hs hn hlen
  clear hi
  go_enter Tryz.func125, Tryz.ntmps125
  go_wp2_with (first | (go_at_call 73; (with_reducible refine (deep_no _ _ HD.out).mono ?_); rintro e w1 ⟨rfl, hbl⟩; have hb := Bu.of_below (g := g) hbl; have hp := PS.below (g := g) (toks := toks) (en := en) (at_ := (n : Int)) (Uq1 HP0.out) hbl; clear hbl; have HP1 := Lib.hid hp; have HB1 := Lib.hid (Bu.trans (g := g) (a := W.alloc nd0) (Uq2 HB0.out) hb); have BK1 := Lib.hid (hb.blk (k := W.heap.size) (o := nd0) (Uq3 BK0.out) (Nat.ne_of_gt HG.out)); clear hp hb; (try clear c0 c1 c2 c3 c4 c5 c6 c7 c8 c9 z0 z1 z2 z3 z4 z5 z6 z7 z8 z9 hsz); obtain ⟨⟨c0, c1, c2, c3, c4, c5, c6, c7, c8, c9⟩, z0, z1, z2, z3, z4, z5, z6, z7, z8, z9⟩ := z10 BK1.out; have hsz : W.heap.size < w1.heap.size := blk_lt BK1.out; have HZ1 := Lib.hid hsz) | (go_at_call 75; (with_reducible refine (sign_of g toks en _ HN.out _ _ _ _ _ _ _ HS.out ?s1 HLEN.out _ ?sp ?s2 ?s3 ?s4).mono ?_); (case sp => exact (Uq1 HP1.out)); (case s1 => decide); (case s2 => exact strC_new (by simp) rfl (by decide)); (case s3 => decide); (case s4 => rfl); rintro e w2 ⟨rfl, hp, hb⟩; have HP2 := Lib.hid hp; have HB2 := Lib.hid (Bu.trans (g := g) (a := W.alloc nd0) (Uq2 HB1.out) hb); have BK2 := Lib.hid (hb.blk (k := W.heap.size) (o := nd0) (Uq3 BK1.out) (Nat.ne_of_gt HG.out)); clear hp hb; (try clear c0 c1 c2 c3 c4 c5 c6 c7 c8 c9 z0 z1 z2 z3 z4 z5 z6 z7 z8 z9 hsz); obtain ⟨⟨c0, c1, c2, c3, c4, c5, c6, c7, c8, c9⟩, z0, z1, z2, z3, z4, z5, z6, z7, z8, z9⟩ := z10 BK2.out; have hsz : W.heap.size < w2.heap.size := blk_lt BK2.out; have HZ2 := Lib.hid hsz) | (go_at_call 132; (with_reducible refine (HF.out.bad g _ ?sp).mono ?_); (case sp => exact (Uq1 HP2.out)); rintro e w3 ⟨hp, hb, q, rfl, he, hq⟩; have HE := Lib.hid he; have HQ := Lib.hid (lo (g := g) (o := nd0) (W := W) (Uq2 HB2.out) hq); clear he hq; have HP3 := Lib.hid hp; have HB3 := Lib.hid (Bu.trans (g := g) (a := W.alloc nd0) (Uq2 HB2.out) hb); have BK3 := Lib.hid (hb.blk (k := W.heap.size) (o := nd0) (Uq3 BK2.out) (Nat.ne_of_gt HG.out)); clear hp hb; (try clear c0 c1 c2 c3 c4 c5 c6 c7 c8 c9 z0 z1 z2 z3 z4 z5 z6 z7 z8 z9 hsz); obtain ⟨⟨c0, c1, c2, c3, c4, c5, c6, c7, c8, c9⟩, z0, z1, z2, z3, z4, z5, z6, z7, z8, z9⟩ := z10 BK3.out; have hsz : W.heap.size < w3.heap.size := blk_lt BK3.out; have HZ3 := Lib.hid hsz))
  refine bodyPost_ret (results_ct rfl _ _ W.heap.size 31 _ (0, 0) _ rfl (Uq4 BK3.out) hu rfl (by kernel_rfl)) rfl ?_
  refine ⟨?_, ?_, q, ?_, ?_, Nat.le_of_lt HQ.out⟩
  · exact (Uq5 HP3.out)
  · exact (Uq6 HB3.out)
  · rfl
  · exact (Uq7 HE.out)
set_option maxHeartbeats 8000000 in
set_option maxRecDepth 100000 in
theorem unary_pok (toks : List Tok) (en i : Int) (n : Nat) (n2 : Nat) (a : TN) (hd : ¬ 40 < i) (hi : 0 ≤ i) (s : ByteArray) (n1 : Nat) (hs : signV toks n [⟨#[45]⟩] = (s, false, n1)) (hn : n ≤ toks.length) (hlen : toks.length ≤ 1000000) (hf : Does 132 toks en i n1 (.ok a, n2)) : Does 125 toks en i n (.ok a, n2) := by
  intro g W hp
  have hu := Tryz.underlying31
  have HG := Lib.hid hp.lt
  have HP0 := Lib.hid (hp.alloc nd0)
  have HB0 := Lib.hid (Bu.refl g (W.alloc nd0))
  have BK0 := Lib.hid (blk_new W nd0)
  have HPW := Lib.hid hp
  clear hp
  have HD := Lib.hid hd
  have HF := Lib.hid hf
  have HS := Lib.hid hs
  have HN := Lib.hid hn
  have HLEN := Lib.hid hlen
  clear hd hf hs hn hlen
  clear hi
  go_enter Tryz.func125, Tryz.ntmps125
  go_wp2_with (first | (go_at_call 73; (with_reducible refine (deep_no _ _ HD.out).mono ?_); rintro e w1 ⟨rfl, hbl⟩; have hb := Bu.of_below (g := g) hbl; have hp := PS.below (g := g) (toks := toks) (en := en) (at_ := (n : Int)) (Uq1 HP0.out) hbl; clear hbl; have HP1 := Lib.hid hp; have HB1 := Lib.hid (Bu.trans (g := g) (a := W.alloc nd0) (Uq2 HB0.out) hb); have BK1 := Lib.hid (hb.blk (k := W.heap.size) (o := nd0) (Uq3 BK0.out) (Nat.ne_of_gt HG.out)); clear hp hb; (try clear c0 c1 c2 c3 c4 c5 c6 c7 c8 c9 z0 z1 z2 z3 z4 z5 z6 z7 z8 z9 hsz); obtain ⟨⟨c0, c1, c2, c3, c4, c5, c6, c7, c8, c9⟩, z0, z1, z2, z3, z4, z5, z6, z7, z8, z9⟩ := z10 BK1.out; have hsz : W.heap.size < w1.heap.size := blk_lt BK1.out; have HZ1 := Lib.hid hsz) | (go_at_call 75; (with_reducible refine (sign_of g toks en _ HN.out _ _ _ _ _ _ _ HS.out ?s1 HLEN.out _ ?sp ?s2 ?s3 ?s4).mono ?_); (case sp => exact (Uq1 HP1.out)); (case s1 => decide); (case s2 => exact strC_new (by simp) rfl (by decide)); (case s3 => decide); (case s4 => rfl); rintro e w2 ⟨rfl, hp, hb⟩; have HP2 := Lib.hid hp; have HB2 := Lib.hid (Bu.trans (g := g) (a := W.alloc nd0) (Uq2 HB1.out) hb); have BK2 := Lib.hid (hb.blk (k := W.heap.size) (o := nd0) (Uq3 BK1.out) (Nat.ne_of_gt HG.out)); clear hp hb; (try clear c0 c1 c2 c3 c4 c5 c6 c7 c8 c9 z0 z1 z2 z3 z4 z5 z6 z7 z8 z9 hsz); obtain ⟨⟨c0, c1, c2, c3, c4, c5, c6, c7, c8, c9⟩, z0, z1, z2, z3, z4, z5, z6, z7, z8, z9⟩ := z10 BK2.out; have hsz : W.heap.size < w2.heap.size := blk_lt BK2.out; have HZ2 := Lib.hid hsz) | (go_at_call 132; (fail_if_success have := HP3); (with_reducible refine (HF.out.ok g _ ?sp).mono ?_); (case sp => exact (Uq1 HP2.out)); rintro e w3 ⟨hp, hb, v3, rfl, hv⟩; obtain ⟨AA3, kk3, rfl⟩ := Kd.V_slice hv; have HV3 := Lib.hid (Kd.V_mono hv (fun k hk => lo (g := g) (o := nd0) (W := W) (Uq2 HB2.out) hk)); clear hv; have HP3 := Lib.hid hp; have HB3 := Lib.hid (Bu.trans (g := g) (a := W.alloc nd0) (Uq2 HB2.out) hb); have BK3 := Lib.hid (hb.blk (k := W.heap.size) (o := nd0) (Uq3 BK2.out) (Nat.ne_of_gt HG.out)); clear hp hb; (try clear c0 c1 c2 c3 c4 c5 c6 c7 c8 c9 z0 z1 z2 z3 z4 z5 z6 z7 z8 z9 hsz); obtain ⟨⟨c0, c1, c2, c3, c4, c5, c6, c7, c8, c9⟩, z0, z1, z2, z3, z4, z5, z6, z7, z8, z9⟩ := z10 BK3.out; have hsz : W.heap.size < w3.heap.size := blk_lt BK3.out; have HZ3 := Lib.hid hsz))
  refine bodyPost_ret (results_ct rfl _ _ W.heap.size 31 _ (0, 0) _ rfl (Uq4 BK3.out) hu rfl (by kernel_rfl)) rfl ?_
  refine ⟨?_, ?_, (.slice AA3 a.f4.length kk3), ?_, Kd.V_mono ?_ (fun k hk => Nat.le_of_lt hk)⟩
  · exact (Uq5 HP3.out)
  · exact (Uq6 HB3.out)
  · rfl
  · exact (Uq9 HV3.out)
set_option maxHeartbeats 8000000 in
set_option maxRecDepth 100000 in
theorem unary_ubad (toks : List Tok) (en i : Int) (n : Nat) (n2 : Nat) (p c : Int) (hd : ¬ 40 < i) (hi : 0 ≤ i) (s : ByteArray) (n1 : Nat) (hs : signV toks n [⟨#[45]⟩] = (s, true, n1)) (hn : n ≤ toks.length) (hlen : toks.length ≤ 1000000) (hf : Does 125 toks en (i + 1) n1 (.bad p c, n2)) : Does 125 toks en i n (.bad p c, n2) := by
  intro g W hp
  have hu := Tryz.underlying31
  have HG := Lib.hid hp.lt
  have HP0 := Lib.hid (hp.alloc nd0)
  have HB0 := Lib.hid (Bu.refl g (W.alloc nd0))
  have BK0 := Lib.hid (blk_new W nd0)
  have HPW := Lib.hid hp
  clear hp
  have w1 : IntKind.i64.wrap (i + 1) = i + 1 := by rw [i64_w, M.wrap64_id (by unfold I64; omega)]
  have HD := Lib.hid hd
  have HF := Lib.hid hf
  have HS := Lib.hid hs
  have HN := Lib.hid hn
  have HLEN := Lib.hid hlen
  clear hd hf hs hn hlen
  clear hi
  go_enter Tryz.func125, Tryz.ntmps125
  go_wp2_with (first | (go_at_call 73; (with_reducible refine (deep_no _ _ HD.out).mono ?_); rintro e w1 ⟨rfl, hbl⟩; have hb := Bu.of_below (g := g) hbl; have hp := PS.below (g := g) (toks := toks) (en := en) (at_ := (n : Int)) (Uq1 HP0.out) hbl; clear hbl; have HP1 := Lib.hid hp; have HB1 := Lib.hid (Bu.trans (g := g) (a := W.alloc nd0) (Uq2 HB0.out) hb); have BK1 := Lib.hid (hb.blk (k := W.heap.size) (o := nd0) (Uq3 BK0.out) (Nat.ne_of_gt HG.out)); clear hp hb; (try clear c0 c1 c2 c3 c4 c5 c6 c7 c8 c9 z0 z1 z2 z3 z4 z5 z6 z7 z8 z9 hsz); obtain ⟨⟨c0, c1, c2, c3, c4, c5, c6, c7, c8, c9⟩, z0, z1, z2, z3, z4, z5, z6, z7, z8, z9⟩ := z10 BK1.out; have hsz : W.heap.size < w1.heap.size := blk_lt BK1.out; have HZ1 := Lib.hid hsz) | (go_at_call 75; (with_reducible refine (sign_of g toks en _ HN.out _ _ _ _ _ _ _ HS.out ?s1 HLEN.out _ ?sp ?s2 ?s3 ?s4).mono ?_); (case sp => exact (Uq1 HP1.out)); (case s1 => decide); (case s2 => exact strC_new (by simp) rfl (by decide)); (case s3 => decide); (case s4 => rfl); rintro e w2 ⟨rfl, hp, hb⟩; have HP2 := Lib.hid hp; have HB2 := Lib.hid (Bu.trans (g := g) (a := W.alloc nd0) (Uq2 HB1.out) hb); have BK2 := Lib.hid (hb.blk (k := W.heap.size) (o := nd0) (Uq3 BK1.out) (Nat.ne_of_gt HG.out)); clear hp hb; (try clear c0 c1 c2 c3 c4 c5 c6 c7 c8 c9 z0 z1 z2 z3 z4 z5 z6 z7 z8 z9 hsz); obtain ⟨⟨c0, c1, c2, c3, c4, c5, c6, c7, c8, c9⟩, z0, z1, z2, z3, z4, z5, z6, z7, z8, z9⟩ := z10 BK2.out; have hsz : W.heap.size < w2.heap.size := blk_lt BK2.out; have HZ2 := Lib.hid hsz) | (go_at_call 125; (with_reducible refine (HF.out.bad g _ ?sp).mono ?_); (case sp => exact (Uq1 HP2.out)); rintro e w3 ⟨hp, hb, q, rfl, he, hq⟩; have HE := Lib.hid he; have HQ := Lib.hid (lo (g := g) (o := nd0) (W := W) (Uq2 HB2.out) hq); clear he hq; have HP3 := Lib.hid hp; have HB3 := Lib.hid (Bu.trans (g := g) (a := W.alloc nd0) (Uq2 HB2.out) hb); have BK3 := Lib.hid (hb.blk (k := W.heap.size) (o := nd0) (Uq3 BK2.out) (Nat.ne_of_gt HG.out)); clear hp hb; (try clear c0 c1 c2 c3 c4 c5 c6 c7 c8 c9 z0 z1 z2 z3 z4 z5 z6 z7 z8 z9 hsz); obtain ⟨⟨c0, c1, c2, c3, c4, c5, c6, c7, c8, c9⟩, z0, z1, z2, z3, z4, z5, z6, z7, z8, z9⟩ := z10 BK3.out; have hsz : W.heap.size < w3.heap.size := blk_lt BK3.out; have HZ3 := Lib.hid hsz))
  refine bodyPost_ret (results_ct rfl _ _ W.heap.size 31 _ (0, 0) _ rfl (Uq4 BK3.out) hu rfl (by kernel_rfl)) rfl ?_
  refine ⟨?_, ?_, q, ?_, ?_, Nat.le_of_lt HQ.out⟩
  · exact (Uq5 HP3.out)
  · exact (Uq6 HB3.out)
  · rfl
  · exact (Uq7 HE.out)
def negT (a : TN) : TN := ⟨4, ⟨0, 0, ⟨#[]⟩⟩, ⟨⟨0, 0⟩, ⟨0, 0⟩⟩, ⟨#[]⟩, [a]⟩
set_option maxHeartbeats 8000000 in
set_option maxRecDepth 100000 in
theorem unary_uok (toks : List Tok) (en i : Int) (n : Nat) (n2 : Nat) (a : TN) (hd : ¬ 40 < i) (hi : 0 ≤ i) (s : ByteArray) (n1 : Nat) (hs : signV toks n [⟨#[45]⟩] = (s, true, n1)) (hn : n ≤ toks.length) (hlen : toks.length ≤ 1000000) (hf : Does 125 toks en (i + 1) n1 (.ok a, n2)) : Does 125 toks en i n (.ok (negT a), n2) := by
  intro g W hp
  have hu := Tryz.underlying31
  have HG := Lib.hid hp.lt
  have HP0 := Lib.hid (hp.alloc nd0)
  have HB0 := Lib.hid (Bu.refl g (W.alloc nd0))
  have BK0 := Lib.hid (blk_new W nd0)
  have HPW := Lib.hid hp
  clear hp
  have w1 : IntKind.i64.wrap (i + 1) = i + 1 := by rw [i64_w, M.wrap64_id (by unfold I64; omega)]
  have HD := Lib.hid hd
  have HF := Lib.hid hf
  have HS := Lib.hid hs
  have HN := Lib.hid hn
  have HLEN := Lib.hid hlen
  clear hd hf hs hn hlen
  clear hi
  go_enter Tryz.func125, Tryz.ntmps125
  go_wp2_with (first | (go_at_call 73; (with_reducible refine (deep_no _ _ HD.out).mono ?_); rintro e w1 ⟨rfl, hbl⟩; have hb := Bu.of_below (g := g) hbl; have hp := PS.below (g := g) (toks := toks) (en := en) (at_ := (n : Int)) (Uq1 HP0.out) hbl; clear hbl; have HP1 := Lib.hid hp; have HB1 := Lib.hid (Bu.trans (g := g) (a := W.alloc nd0) (Uq2 HB0.out) hb); have BK1 := Lib.hid (hb.blk (k := W.heap.size) (o := nd0) (Uq3 BK0.out) (Nat.ne_of_gt HG.out)); clear hp hb; (try clear c0 c1 c2 c3 c4 c5 c6 c7 c8 c9 z0 z1 z2 z3 z4 z5 z6 z7 z8 z9 hsz); obtain ⟨⟨c0, c1, c2, c3, c4, c5, c6, c7, c8, c9⟩, z0, z1, z2, z3, z4, z5, z6, z7, z8, z9⟩ := z10 BK1.out; have hsz : W.heap.size < w1.heap.size := blk_lt BK1.out; have HZ1 := Lib.hid hsz) | (go_at_call 75; (with_reducible refine (sign_of g toks en _ HN.out _ _ _ _ _ _ _ HS.out ?s1 HLEN.out _ ?sp ?s2 ?s3 ?s4).mono ?_); (case sp => exact (Uq1 HP1.out)); (case s1 => decide); (case s2 => exact strC_new (by simp) rfl (by decide)); (case s3 => decide); (case s4 => rfl); rintro e w2 ⟨rfl, hp, hb⟩; have HP2 := Lib.hid hp; have HB2 := Lib.hid (Bu.trans (g := g) (a := W.alloc nd0) (Uq2 HB1.out) hb); have BK2 := Lib.hid (hb.blk (k := W.heap.size) (o := nd0) (Uq3 BK1.out) (Nat.ne_of_gt HG.out)); clear hp hb; (try clear c0 c1 c2 c3 c4 c5 c6 c7 c8 c9 z0 z1 z2 z3 z4 z5 z6 z7 z8 z9 hsz); obtain ⟨⟨c0, c1, c2, c3, c4, c5, c6, c7, c8, c9⟩, z0, z1, z2, z3, z4, z5, z6, z7, z8, z9⟩ := z10 BK2.out; have hsz : W.heap.size < w2.heap.size := blk_lt BK2.out; have HZ2 := Lib.hid hsz) | (go_at_call 125; (fail_if_success have := HP3); (with_reducible refine (HF.out.ok g _ ?sp).mono ?_); (case sp => exact (Uq1 HP2.out)); rintro e w3 ⟨hp, hb, v3, rfl, hv⟩; obtain ⟨AA3, kk3, rfl⟩ := Kd.V_slice hv; have HV3 := Lib.hid (Kd.V_mono hv (fun k hk => lo (g := g) (o := nd0) (W := W) (Uq2 HB2.out) hk)); clear hv; have HP3 := Lib.hid hp; have HB3 := Lib.hid (Bu.trans (g := g) (a := W.alloc nd0) (Uq2 HB2.out) hb); have BK3 := Lib.hid (hb.blk (k := W.heap.size) (o := nd0) (Uq3 BK2.out) (Nat.ne_of_gt HG.out)); clear hp hb; (try clear c0 c1 c2 c3 c4 c5 c6 c7 c8 c9 z0 z1 z2 z3 z4 z5 z6 z7 z8 z9 hsz); obtain ⟨⟨c0, c1, c2, c3, c4, c5, c6, c7, c8, c9⟩, z0, z1, z2, z3, z4, z5, z6, z7, z8, z9⟩ := z10 BK3.out; have hsz : W.heap.size < w3.heap.size := blk_lt BK3.out; have HZ3 := Lib.hid hsz))
  refine bodyPost_ret (results_ct rfl _ _ W.heap.size 31 _ (0, 0) _ rfl (Uq4 BK3.out) hu rfl (by kernel_rfl)) rfl ?_
  refine ⟨?_, ?_, (.slice (some ⟨w3.heap.size + 1, 0, none⟩) 1 1), ?_, Kd.V_mono (vN_one (ok := fun k => W.heap.size < k) ?_ ?_ ?_) (fun k hk => Nat.le_of_lt hk)⟩
  · exact (Uq5 HP3.out)
  · exact (Uq6 HB3.out)
  · rfl
  · simp [World.setCell]
  · have := HZ3.out; simp [World.setCell]; omega
  · exact (Uq9 HV3.out)
set_option maxHeartbeats 8000000 in
set_option maxRecDepth 100000 in
theorem power_ubad (toks : List Tok) (en i : Int) (n : Nat) (n1 : Nat) (p c : Int) (hd : ¬ 40 < i) (hi : 0 ≤ i) (hf : Does 125 toks en i n (.bad p c, n1)) : Does 109 toks en i n (.bad p c, n1) := by
  intro g W hp
  have hu := Tryz.underlying31
  have HG := Lib.hid hp.lt
  have HP0 := Lib.hid (hp.alloc nd0)
  have HB0 := Lib.hid (Bu.refl g (W.alloc nd0))
  have BK0 := Lib.hid (blk_new W nd0)
  have HPW := Lib.hid hp
  clear hp
  have HD := Lib.hid hd
  have HF := Lib.hid hf
  clear hd hf
  clear hi
  go_enter Tryz.func109, Tryz.ntmps109
  go_wp2_with (first | (go_at_call 73; (with_reducible refine (deep_no _ _ HD.out).mono ?_); rintro e w1 ⟨rfl, hbl⟩; have hb := Bu.of_below (g := g) hbl; have hp := PS.below (g := g) (toks := toks) (en := en) (at_ := (n : Int)) (Uq1 HP0.out) hbl; clear hbl; have HP1 := Lib.hid hp; have HB1 := Lib.hid (Bu.trans (g := g) (a := W.alloc nd0) (Uq2 HB0.out) hb); have BK1 := Lib.hid (hb.blk (k := W.heap.size) (o := nd0) (Uq3 BK0.out) (Nat.ne_of_gt HG.out)); clear hp hb; (try clear c0 c1 c2 c3 c4 c5 c6 c7 c8 c9 z0 z1 z2 z3 z4 z5 z6 z7 z8 z9 hsz); obtain ⟨⟨c0, c1, c2, c3, c4, c5, c6, c7, c8, c9⟩, z0, z1, z2, z3, z4, z5, z6, z7, z8, z9⟩ := z10 BK1.out; have hsz : W.heap.size < w1.heap.size := blk_lt BK1.out; have HZ1 := Lib.hid hsz) | (go_at_call 125; (with_reducible refine (HF.out.bad g _ ?sp).mono ?_); (case sp => exact (Uq1 HP1.out)); rintro e w2 ⟨hp, hb, q, rfl, he, hq⟩; have HE := Lib.hid he; have HQ := Lib.hid (lo (g := g) (o := nd0) (W := W) (Uq2 HB1.out) hq); clear he hq; have HP2 := Lib.hid hp; have HB2 := Lib.hid (Bu.trans (g := g) (a := W.alloc nd0) (Uq2 HB1.out) hb); have BK2 := Lib.hid (hb.blk (k := W.heap.size) (o := nd0) (Uq3 BK1.out) (Nat.ne_of_gt HG.out)); clear hp hb; (try clear c0 c1 c2 c3 c4 c5 c6 c7 c8 c9 z0 z1 z2 z3 z4 z5 z6 z7 z8 z9 hsz); obtain ⟨⟨c0, c1, c2, c3, c4, c5, c6, c7, c8, c9⟩, z0, z1, z2, z3, z4, z5, z6, z7, z8, z9⟩ := z10 BK2.out; have hsz : W.heap.size < w2.heap.size := blk_lt BK2.out; have HZ2 := Lib.hid hsz))
  refine bodyPost_ret (results_ct rfl _ _ W.heap.size 31 _ (0, 0) _ rfl (Uq4 BK2.out) hu rfl (by kernel_rfl)) rfl ?_
  refine ⟨?_, ?_, q, ?_, ?_, Nat.le_of_lt HQ.out⟩
  · exact (Uq5 HP2.out)
  · exact (Uq6 HB2.out)
  · rfl
  · exact (Uq7 HE.out)
set_option maxHeartbeats 8000000 in
set_option maxRecDepth 100000 in
theorem power_one (toks : List Tok) (en i : Int) (n : Nat) (n1 : Nat) (a : TN) (hd : ¬ 40 < i) (hi : 0 ≤ i) (s : ByteArray) (n2 : Nat) (hs : signV toks n1 [⟨#[94]⟩] = (s, false, n2)) (hn : n1 ≤ toks.length) (hlen : toks.length ≤ 1000000) (hf : Does 125 toks en i n (.ok a, n1)) : Does 109 toks en i n (.ok a, n2) := by
  intro g W hp
  have hu := Tryz.underlying31
  have HG := Lib.hid hp.lt
  have HP0 := Lib.hid (hp.alloc nd0)
  have HB0 := Lib.hid (Bu.refl g (W.alloc nd0))
  have BK0 := Lib.hid (blk_new W nd0)
  have HPW := Lib.hid hp
  clear hp
  have HD := Lib.hid hd
  have HF := Lib.hid hf
  have HS := Lib.hid hs
  have HN := Lib.hid hn
  have HLEN := Lib.hid hlen
  clear hd hf hs hn hlen
  clear hi
  go_enter Tryz.func109, Tryz.ntmps109
  go_wp2_with (first | (go_at_call 73; (with_reducible refine (deep_no _ _ HD.out).mono ?_); rintro e w1 ⟨rfl, hbl⟩; have hb := Bu.of_below (g := g) hbl; have hp := PS.below (g := g) (toks := toks) (en := en) (at_ := (n : Int)) (Uq1 HP0.out) hbl; clear hbl; have HP1 := Lib.hid hp; have HB1 := Lib.hid (Bu.trans (g := g) (a := W.alloc nd0) (Uq2 HB0.out) hb); have BK1 := Lib.hid (hb.blk (k := W.heap.size) (o := nd0) (Uq3 BK0.out) (Nat.ne_of_gt HG.out)); clear hp hb; (try clear c0 c1 c2 c3 c4 c5 c6 c7 c8 c9 z0 z1 z2 z3 z4 z5 z6 z7 z8 z9 hsz); obtain ⟨⟨c0, c1, c2, c3, c4, c5, c6, c7, c8, c9⟩, z0, z1, z2, z3, z4, z5, z6, z7, z8, z9⟩ := z10 BK1.out; have hsz : W.heap.size < w1.heap.size := blk_lt BK1.out; have HZ1 := Lib.hid hsz) | (go_at_call 125; (fail_if_success have := HP2); (with_reducible refine (HF.out.ok g _ ?sp).mono ?_); (case sp => exact (Uq1 HP1.out)); rintro e w2 ⟨hp, hb, v2, rfl, hv⟩; obtain ⟨AA2, kk2, rfl⟩ := Kd.V_slice hv; have HV2 := Lib.hid (Kd.V_mono hv (fun k hk => lo (g := g) (o := nd0) (W := W) (Uq2 HB1.out) hk)); clear hv; have HP2 := Lib.hid hp; have HB2 := Lib.hid (Bu.trans (g := g) (a := W.alloc nd0) (Uq2 HB1.out) hb); have BK2 := Lib.hid (hb.blk (k := W.heap.size) (o := nd0) (Uq3 BK1.out) (Nat.ne_of_gt HG.out)); clear hp hb; (try clear c0 c1 c2 c3 c4 c5 c6 c7 c8 c9 z0 z1 z2 z3 z4 z5 z6 z7 z8 z9 hsz); obtain ⟨⟨c0, c1, c2, c3, c4, c5, c6, c7, c8, c9⟩, z0, z1, z2, z3, z4, z5, z6, z7, z8, z9⟩ := z10 BK2.out; have hsz : W.heap.size < w2.heap.size := blk_lt BK2.out; have HZ2 := Lib.hid hsz) | (go_at_call 75; (with_reducible refine (sign_of g toks en _ HN.out _ _ _ _ _ _ _ HS.out ?s1 HLEN.out _ ?sp ?s2 ?s3 ?s4).mono ?_); (case sp => exact (Uq1 HP2.out)); (case s1 => decide); (case s2 => exact strC_new (by simp) rfl (by decide)); (case s3 => decide); (case s4 => rfl); rintro e w3 ⟨rfl, hp, hb⟩; have HV2b := Lib.hid (vN.bu (ok := fun k => W.heap.size < k) (v := (.slice AA2 a.f4.length kk2)) (l := a.f4) (Uq8 HV2.out) hb (fun k hk => Nat.ne_of_gt (Nat.lt_trans HG.out hk))); have HP3 := Lib.hid hp; have HB3 := Lib.hid (Bu.trans (g := g) (a := W.alloc nd0) (Uq2 HB2.out) hb); have BK3 := Lib.hid (hb.blk (k := W.heap.size) (o := nd0) (Uq3 BK2.out) (Nat.ne_of_gt HG.out)); have BA := Lib.hid (hb.blk (k := w2.heap.size) (o := ndO a (.slice AA2 a.f4.length kk2)) (Uq3 BK2.out) (Nat.ne_of_gt (Nat.lt_trans HG.out HZ2.out))); clear hp hb; (try clear c0 c1 c2 c3 c4 c5 c6 c7 c8 c9 z0 z1 z2 z3 z4 z5 z6 z7 z8 z9 hsz); obtain ⟨⟨c0, c1, c2, c3, c4, c5, c6, c7, c8, c9⟩, z0, z1, z2, z3, z4, z5, z6, z7, z8, z9⟩ := z10 BK3.out; have hsz : W.heap.size < w3.heap.size := blk_lt BK3.out; have HZ3 := Lib.hid hsz; obtain ⟨⟨d0_0, d0_1, d0_2, d0_3, d0_4, d0_5, d0_6, d0_7, d0_8, d0_9⟩, -⟩ := z10 BA.out; have hd0_ := blk_lt BA.out))
  refine bodyPost_ret (results_ct rfl _ _ W.heap.size 31 _ (0, 0) _ rfl (Uq4 BK3.out) hu rfl (by kernel_rfl)) rfl ?_
  refine ⟨?_, ?_, (.slice AA2 a.f4.length kk2), ?_, Kd.V_mono ?_ (fun k hk => Nat.le_of_lt hk)⟩
  · exact (Uq5 HP3.out)
  · exact (Uq6 HB3.out)
  · rfl
  · exact (Uq9 HV2b.out)
set_option maxHeartbeats 8000000 in
set_option maxRecDepth 100000 in
theorem power_bbad (toks : List Tok) (en i : Int) (n : Nat) (n1 n3 : Nat) (a : TN) (p c : Int) (hd : ¬ 40 < i) (hi : 0 ≤ i) (s : ByteArray) (n2 : Nat) (hs : signV toks n1 [⟨#[94]⟩] = (s, true, n2)) (hn : n1 ≤ toks.length) (hlen : toks.length ≤ 1000000) (hf : Does 125 toks en i n (.ok a, n1)) (hg : Does 109 toks en (i + 1) n2 (.bad p c, n3)) : Does 109 toks en i n (.bad p c, n3) := by
  intro g W hp
  have hu := Tryz.underlying31
  have HG := Lib.hid hp.lt
  have HP0 := Lib.hid (hp.alloc nd0)
  have HB0 := Lib.hid (Bu.refl g (W.alloc nd0))
  have BK0 := Lib.hid (blk_new W nd0)
  have HPW := Lib.hid hp
  clear hp
  have w1 : IntKind.i64.wrap (i + 1) = i + 1 := by rw [i64_w, M.wrap64_id (by unfold I64; omega)]
  have HD := Lib.hid hd
  have HF := Lib.hid hf
  have HH := Lib.hid hg
  have HS := Lib.hid hs
  have HN := Lib.hid hn
  have HLEN := Lib.hid hlen
  clear hd hf hg hs hn hlen
  clear hi
  go_enter Tryz.func109, Tryz.ntmps109
  go_wp2_with (first | (go_at_call 73; (with_reducible refine (deep_no _ _ HD.out).mono ?_); rintro e w1 ⟨rfl, hbl⟩; have hb := Bu.of_below (g := g) hbl; have hp := PS.below (g := g) (toks := toks) (en := en) (at_ := (n : Int)) (Uq1 HP0.out) hbl; clear hbl; have HP1 := Lib.hid hp; have HB1 := Lib.hid (Bu.trans (g := g) (a := W.alloc nd0) (Uq2 HB0.out) hb); have BK1 := Lib.hid (hb.blk (k := W.heap.size) (o := nd0) (Uq3 BK0.out) (Nat.ne_of_gt HG.out)); clear hp hb; (try clear c0 c1 c2 c3 c4 c5 c6 c7 c8 c9 z0 z1 z2 z3 z4 z5 z6 z7 z8 z9 hsz); obtain ⟨⟨c0, c1, c2, c3, c4, c5, c6, c7, c8, c9⟩, z0, z1, z2, z3, z4, z5, z6, z7, z8, z9⟩ := z10 BK1.out; have hsz : W.heap.size < w1.heap.size := blk_lt BK1.out; have HZ1 := Lib.hid hsz) | (go_at_call 125; (fail_if_success have := HP2); (with_reducible refine (HF.out.ok g _ ?sp).mono ?_); (case sp => exact (Uq1 HP1.out)); rintro e w2 ⟨hp, hb, v2, rfl, hv⟩; obtain ⟨AA2, kk2, rfl⟩ := Kd.V_slice hv; have HV2 := Lib.hid (Kd.V_mono hv (fun k hk => lo (g := g) (o := nd0) (W := W) (Uq2 HB1.out) hk)); clear hv; have HP2 := Lib.hid hp; have HB2 := Lib.hid (Bu.trans (g := g) (a := W.alloc nd0) (Uq2 HB1.out) hb); have BK2 := Lib.hid (hb.blk (k := W.heap.size) (o := nd0) (Uq3 BK1.out) (Nat.ne_of_gt HG.out)); clear hp hb; (try clear c0 c1 c2 c3 c4 c5 c6 c7 c8 c9 z0 z1 z2 z3 z4 z5 z6 z7 z8 z9 hsz); obtain ⟨⟨c0, c1, c2, c3, c4, c5, c6, c7, c8, c9⟩, z0, z1, z2, z3, z4, z5, z6, z7, z8, z9⟩ := z10 BK2.out; have hsz : W.heap.size < w2.heap.size := blk_lt BK2.out; have HZ2 := Lib.hid hsz) | (go_at_call 75; (with_reducible refine (sign_of g toks en _ HN.out _ _ _ _ _ _ _ HS.out ?s1 HLEN.out _ ?sp ?s2 ?s3 ?s4).mono ?_); (case sp => exact (Uq1 HP2.out)); (case s1 => decide); (case s2 => exact strC_new (by simp) rfl (by decide)); (case s3 => decide); (case s4 => rfl); rintro e w3 ⟨rfl, hp, hb⟩; have HV2b := Lib.hid (vN.bu (ok := fun k => W.heap.size < k) (v := (.slice AA2 a.f4.length kk2)) (l := a.f4) (Uq8 HV2.out) hb (fun k hk => Nat.ne_of_gt (Nat.lt_trans HG.out hk))); have HP3 := Lib.hid hp; have HB3 := Lib.hid (Bu.trans (g := g) (a := W.alloc nd0) (Uq2 HB2.out) hb); have BK3 := Lib.hid (hb.blk (k := W.heap.size) (o := nd0) (Uq3 BK2.out) (Nat.ne_of_gt HG.out)); have BA := Lib.hid (hb.blk (k := w2.heap.size) (o := ndO a (.slice AA2 a.f4.length kk2)) (Uq3 BK2.out) (Nat.ne_of_gt (Nat.lt_trans HG.out HZ2.out))); clear hp hb; (try clear c0 c1 c2 c3 c4 c5 c6 c7 c8 c9 z0 z1 z2 z3 z4 z5 z6 z7 z8 z9 hsz); obtain ⟨⟨c0, c1, c2, c3, c4, c5, c6, c7, c8, c9⟩, z0, z1, z2, z3, z4, z5, z6, z7, z8, z9⟩ := z10 BK3.out; have hsz : W.heap.size < w3.heap.size := blk_lt BK3.out; have HZ3 := Lib.hid hsz; obtain ⟨⟨d0_0, d0_1, d0_2, d0_3, d0_4, d0_5, d0_6, d0_7, d0_8, d0_9⟩, -⟩ := z10 BA.out; have hd0_ := blk_lt BA.out) | (go_at_call 109; (with_reducible refine (HH.out.bad g _ ?sp).mono ?_); (case sp => exact (Uq1 HP3.out)); rintro e w4 ⟨hp, hb, q, rfl, he, hq⟩; have HE := Lib.hid he; have HQ := Lib.hid (lo (g := g) (o := nd0) (W := W) (Uq2 HB3.out) hq); clear he hq; have HP4 := Lib.hid hp; have HB4 := Lib.hid (Bu.trans (g := g) (a := W.alloc nd0) (Uq2 HB3.out) hb); have BK4 := Lib.hid (hb.blk (k := W.heap.size) (o := nd0) (Uq3 BK3.out) (Nat.ne_of_gt HG.out)); clear hp hb; (try clear c0 c1 c2 c3 c4 c5 c6 c7 c8 c9 z0 z1 z2 z3 z4 z5 z6 z7 z8 z9 hsz); obtain ⟨⟨c0, c1, c2, c3, c4, c5, c6, c7, c8, c9⟩, z0, z1, z2, z3, z4, z5, z6, z7, z8, z9⟩ := z10 BK4.out; have hsz : W.heap.size < w4.heap.size := blk_lt BK4.out; have HZ4 := Lib.hid hsz))
  refine bodyPost_ret (results_ct rfl _ _ W.heap.size 31 _ (0, 0) _ rfl (Uq4 BK4.out) hu rfl (by kernel_rfl)) rfl ?_
  refine ⟨?_, ?_, q, ?_, ?_, Nat.le_of_lt HQ.out⟩
  · exact (Uq5 HP4.out)
  · exact (Uq6 HB4.out)
  · rfl
  · exact (Uq7 HE.out)
set_option maxHeartbeats 8000000 in
set_option maxRecDepth 100000 in
theorem power_two (toks : List Tok) (en i : Int) (n : Nat) (n1 n3 : Nat) (a b : TN) (hd : ¬ 40 < i) (hi : 0 ≤ i) (s : ByteArray) (n2 : Nat) (hs : signV toks n1 [⟨#[94]⟩] = (s, true, n2)) (hn : n1 ≤ toks.length) (hlen : toks.length ≤ 1000000) (hf : Does 125 toks en i n (.ok a, n1)) (hg : Does 109 toks en (i + 1) n2 (.ok b, n3)) : Does 109 toks en i n (.ok (twoT ⟨#[94]⟩ a b), n3) := by
  intro g W hp
  have hu := Tryz.underlying31
  have HG := Lib.hid hp.lt
  have HP0 := Lib.hid (hp.alloc nd0)
  have HB0 := Lib.hid (Bu.refl g (W.alloc nd0))
  have BK0 := Lib.hid (blk_new W nd0)
  have HPW := Lib.hid hp
  clear hp
  have w1 : IntKind.i64.wrap (i + 1) = i + 1 := by rw [i64_w, M.wrap64_id (by unfold I64; omega)]
  have HD := Lib.hid hd
  have HF := Lib.hid hf
  have HH := Lib.hid hg
  have HS := Lib.hid hs
  have HN := Lib.hid hn
  have HLEN := Lib.hid hlen
  clear hd hf hg hs hn hlen
  clear hi
  go_enter Tryz.func109, Tryz.ntmps109
  go_wp2_with (first | (go_at_call 73; (with_reducible refine (deep_no _ _ HD.out).mono ?_); rintro e w1 ⟨rfl, hbl⟩; have hb := Bu.of_below (g := g) hbl; have hp := PS.below (g := g) (toks := toks) (en := en) (at_ := (n : Int)) (Uq1 HP0.out) hbl; clear hbl; have HP1 := Lib.hid hp; have HB1 := Lib.hid (Bu.trans (g := g) (a := W.alloc nd0) (Uq2 HB0.out) hb); have BK1 := Lib.hid (hb.blk (k := W.heap.size) (o := nd0) (Uq3 BK0.out) (Nat.ne_of_gt HG.out)); clear hp hb; (try clear c0 c1 c2 c3 c4 c5 c6 c7 c8 c9 z0 z1 z2 z3 z4 z5 z6 z7 z8 z9 hsz); obtain ⟨⟨c0, c1, c2, c3, c4, c5, c6, c7, c8, c9⟩, z0, z1, z2, z3, z4, z5, z6, z7, z8, z9⟩ := z10 BK1.out; have hsz : W.heap.size < w1.heap.size := blk_lt BK1.out; have HZ1 := Lib.hid hsz) | (go_at_call 125; (fail_if_success have := HP2); (with_reducible refine (HF.out.ok g _ ?sp).mono ?_); (case sp => exact (Uq1 HP1.out)); rintro e w2 ⟨hp, hb, v2, rfl, hv⟩; obtain ⟨AA2, kk2, rfl⟩ := Kd.V_slice hv; have HV2 := Lib.hid (Kd.V_mono hv (fun k hk => lo (g := g) (o := nd0) (W := W) (Uq2 HB1.out) hk)); clear hv; have HP2 := Lib.hid hp; have HB2 := Lib.hid (Bu.trans (g := g) (a := W.alloc nd0) (Uq2 HB1.out) hb); have BK2 := Lib.hid (hb.blk (k := W.heap.size) (o := nd0) (Uq3 BK1.out) (Nat.ne_of_gt HG.out)); clear hp hb; (try clear c0 c1 c2 c3 c4 c5 c6 c7 c8 c9 z0 z1 z2 z3 z4 z5 z6 z7 z8 z9 hsz); obtain ⟨⟨c0, c1, c2, c3, c4, c5, c6, c7, c8, c9⟩, z0, z1, z2, z3, z4, z5, z6, z7, z8, z9⟩ := z10 BK2.out; have hsz : W.heap.size < w2.heap.size := blk_lt BK2.out; have HZ2 := Lib.hid hsz) | (go_at_call 75; (with_reducible refine (sign_of g toks en _ HN.out _ _ _ _ _ _ _ HS.out ?s1 HLEN.out _ ?sp ?s2 ?s3 ?s4).mono ?_); (case sp => exact (Uq1 HP2.out)); (case s1 => decide); (case s2 => exact strC_new (by simp) rfl (by decide)); (case s3 => decide); (case s4 => rfl); rintro e w3 ⟨rfl, hp, hb⟩; have HV2b := Lib.hid (vN.bu (ok := fun k => W.heap.size < k) (v := (.slice AA2 a.f4.length kk2)) (l := a.f4) (Uq8 HV2.out) hb (fun k hk => Nat.ne_of_gt (Nat.lt_trans HG.out hk))); have HP3 := Lib.hid hp; have HB3 := Lib.hid (Bu.trans (g := g) (a := W.alloc nd0) (Uq2 HB2.out) hb); have BK3 := Lib.hid (hb.blk (k := W.heap.size) (o := nd0) (Uq3 BK2.out) (Nat.ne_of_gt HG.out)); have BA := Lib.hid (hb.blk (k := w2.heap.size) (o := ndO a (.slice AA2 a.f4.length kk2)) (Uq3 BK2.out) (Nat.ne_of_gt (Nat.lt_trans HG.out HZ2.out))); clear hp hb; (try clear c0 c1 c2 c3 c4 c5 c6 c7 c8 c9 z0 z1 z2 z3 z4 z5 z6 z7 z8 z9 hsz); obtain ⟨⟨c0, c1, c2, c3, c4, c5, c6, c7, c8, c9⟩, z0, z1, z2, z3, z4, z5, z6, z7, z8, z9⟩ := z10 BK3.out; have hsz : W.heap.size < w3.heap.size := blk_lt BK3.out; have HZ3 := Lib.hid hsz; obtain ⟨⟨d0_0, d0_1, d0_2, d0_3, d0_4, d0_5, d0_6, d0_7, d0_8, d0_9⟩, -⟩ := z10 BA.out; have hd0_ := blk_lt BA.out) | (go_at_call 109; (fail_if_success have := HP4); (with_reducible refine (HH.out.ok g _ ?sp).mono ?_); (case sp => exact (Uq1 HP3.out)); rintro e w4 ⟨hp, hb, v4, rfl, hv⟩; obtain ⟨AA4, kk4, rfl⟩ := Kd.V_slice hv; have HV4 := Lib.hid (Kd.V_mono hv (fun k hk => lo (g := g) (o := nd0) (W := W) (Uq2 HB3.out) hk)); clear hv; have HV2bb := Lib.hid (vN.bu (ok := fun k => W.heap.size < k) (v := (.slice AA2 a.f4.length kk2)) (l := a.f4) (Uq8 HV2b.out) hb (fun k hk => Nat.ne_of_gt (Nat.lt_trans HG.out hk))); have HP4 := Lib.hid hp; have HB4 := Lib.hid (Bu.trans (g := g) (a := W.alloc nd0) (Uq2 HB3.out) hb); have BK4 := Lib.hid (hb.blk (k := W.heap.size) (o := nd0) (Uq3 BK3.out) (Nat.ne_of_gt HG.out)); have BA2 := Lib.hid (hb.blk (k := w2.heap.size) (o := ndO a (.slice AA2 a.f4.length kk2)) (Uq3 BA.out) (Nat.ne_of_gt (Nat.lt_trans HG.out HZ2.out))); clear hp hb; (try clear c0 c1 c2 c3 c4 c5 c6 c7 c8 c9 z0 z1 z2 z3 z4 z5 z6 z7 z8 z9 hsz); obtain ⟨⟨c0, c1, c2, c3, c4, c5, c6, c7, c8, c9⟩, z0, z1, z2, z3, z4, z5, z6, z7, z8, z9⟩ := z10 BK4.out; have hsz : W.heap.size < w4.heap.size := blk_lt BK4.out; have HZ4 := Lib.hid hsz; obtain ⟨⟨d0_0, d0_1, d0_2, d0_3, d0_4, d0_5, d0_6, d0_7, d0_8, d0_9⟩, -⟩ := z10 BA2.out; have hd0_ := blk_lt BA2.out) | (go_at_call 76; (with_reducible refine (two_calls (fun k => W.heap.size < k) _ a b (.slice AA2 a.f4.length kk2) (.slice AA4 b.f4.length kk4) _ ?sk ?sa ?sb).mono ?_); (case sk => exact (fun k hk => lo (g := g) (o := nd0) (W := W) (Uq2 HB4.out) hk)); (case sa => exact (Uq8 HV2bb.out)); (case sb => exact (Uq8 HV4.out)); rintro e w5 ⟨v5, rfl, hv, hbl⟩; obtain ⟨AA5, kk5, rfl⟩ := Kd.V_slice hv; have HV5 := Lib.hid hv; clear hv; have hb := Bu.of_below (g := g) hbl; have hp := PS.below (g := g) (toks := toks) (en := en) (at_ := (n3 : Int)) (Uq1 HP4.out) hbl; clear hbl; have HP5 := Lib.hid hp; have HB5 := Lib.hid (Bu.trans (g := g) (a := W.alloc nd0) (Uq2 HB4.out) hb); have BK5 := Lib.hid (hb.blk (k := W.heap.size) (o := nd0) (Uq3 BK4.out) (Nat.ne_of_gt HG.out)); clear hp hb; (try clear c0 c1 c2 c3 c4 c5 c6 c7 c8 c9 z0 z1 z2 z3 z4 z5 z6 z7 z8 z9 hsz); obtain ⟨⟨c0, c1, c2, c3, c4, c5, c6, c7, c8, c9⟩, z0, z1, z2, z3, z4, z5, z6, z7, z8, z9⟩ := z10 BK5.out; have hsz : W.heap.size < w5.heap.size := blk_lt BK5.out; have HZ5 := Lib.hid hsz))
  refine bodyPost_ret (results_ct rfl _ _ W.heap.size 31 _ (0, 0) _ rfl (Uq4 BK5.out) hu rfl (by kernel_rfl)) rfl ?_
  refine ⟨?_, ?_, (.slice AA5 (twoT ⟨#[94]⟩ a b).f4.length kk5), ?_, Kd.V_mono ?_ (fun k hk => Nat.le_of_lt hk)⟩
  · exact (Uq5 HP5.out)
  · exact (Uq6 HB5.out)
  · rfl
  · exact (Uq9 HV5.out)
set_option maxHeartbeats 8000000 in
set_option maxRecDepth 100000 in
theorem formula_abad (toks : List Tok) (en i : Int) (n : Nat) (n1 : Nat) (p c : Int) (hd : ¬ 40 < i) (hi : 0 ≤ i) (hf : Does 74 toks en i n (.bad p c, n1)) : Does 51 toks en i n (.bad p c, n1) := by
  intro g W hp
  have hu := Tryz.underlying31
  have HG := Lib.hid hp.lt
  have HP0 := Lib.hid (hp.alloc nd0)
  have HB0 := Lib.hid (Bu.refl g (W.alloc nd0))
  have BK0 := Lib.hid (blk_new W nd0)
  have HPW := Lib.hid hp
  clear hp
  have HD := Lib.hid hd
  have HF := Lib.hid hf
  clear hd hf
  clear hi
  go_enter Tryz.func51, Tryz.ntmps51
  go_wp2_with (first | (go_at_call 73; (with_reducible refine (deep_no _ _ HD.out).mono ?_); rintro e w1 ⟨rfl, hbl⟩; have hb := Bu.of_below (g := g) hbl; have hp := PS.below (g := g) (toks := toks) (en := en) (at_ := (n : Int)) (Uq1 HP0.out) hbl; clear hbl; have HP1 := Lib.hid hp; have HB1 := Lib.hid (Bu.trans (g := g) (a := W.alloc nd0) (Uq2 HB0.out) hb); have BK1 := Lib.hid (hb.blk (k := W.heap.size) (o := nd0) (Uq3 BK0.out) (Nat.ne_of_gt HG.out)); clear hp hb; (try clear c0 c1 c2 c3 c4 c5 c6 c7 c8 c9 z0 z1 z2 z3 z4 z5 z6 z7 z8 z9 hsz); obtain ⟨⟨c0, c1, c2, c3, c4, c5, c6, c7, c8, c9⟩, z0, z1, z2, z3, z4, z5, z6, z7, z8, z9⟩ := z10 BK1.out; have hsz : W.heap.size < w1.heap.size := blk_lt BK1.out; have HZ1 := Lib.hid hsz) | (go_at_call 74; (with_reducible refine (HF.out.bad g _ ?sp).mono ?_); (case sp => exact (Uq1 HP1.out)); rintro e w2 ⟨hp, hb, q, rfl, he, hq⟩; have HE := Lib.hid he; have HQ := Lib.hid (lo (g := g) (o := nd0) (W := W) (Uq2 HB1.out) hq); clear he hq; have HP2 := Lib.hid hp; have HB2 := Lib.hid (Bu.trans (g := g) (a := W.alloc nd0) (Uq2 HB1.out) hb); have BK2 := Lib.hid (hb.blk (k := W.heap.size) (o := nd0) (Uq3 BK1.out) (Nat.ne_of_gt HG.out)); clear hp hb; (try clear c0 c1 c2 c3 c4 c5 c6 c7 c8 c9 z0 z1 z2 z3 z4 z5 z6 z7 z8 z9 hsz); obtain ⟨⟨c0, c1, c2, c3, c4, c5, c6, c7, c8, c9⟩, z0, z1, z2, z3, z4, z5, z6, z7, z8, z9⟩ := z10 BK2.out; have hsz : W.heap.size < w2.heap.size := blk_lt BK2.out; have HZ2 := Lib.hid hsz))
  refine bodyPost_ret (results_ct rfl _ _ W.heap.size 31 _ (0, 0) _ rfl (Uq4 BK2.out) hu rfl (by kernel_rfl)) rfl ?_
  refine ⟨?_, ?_, q, ?_, ?_, Nat.le_of_lt HQ.out⟩
  · exact (Uq5 HP2.out)
  · exact (Uq6 HB2.out)
  · rfl
  · exact (Uq7 HE.out)
set_option maxHeartbeats 8000000 in
set_option maxRecDepth 100000 in
theorem formula_one (toks : List Tok) (en i : Int) (n : Nat) (n1 : Nat) (a : TN) (hd : ¬ 40 < i) (hi : 0 ≤ i) (s : ByteArray) (n2 : Nat) (hs : signV toks n1 [⟨#[61]⟩, ⟨#[60, 62]⟩, ⟨#[60]⟩, ⟨#[60, 61]⟩, ⟨#[62]⟩, ⟨#[62, 61]⟩] = (s, false, n2)) (hn : n1 ≤ toks.length) (hlen : toks.length ≤ 1000000) (hf : Does 74 toks en i n (.ok a, n1)) : Does 51 toks en i n (.ok a, n2) := by
  intro g W hp
  have hu := Tryz.underlying31
  have HG := Lib.hid hp.lt
  have HP0 := Lib.hid (hp.alloc nd0)
  have HB0 := Lib.hid (Bu.refl g (W.alloc nd0))
  have BK0 := Lib.hid (blk_new W nd0)
  have HPW := Lib.hid hp
  clear hp
  have HD := Lib.hid hd
  have HF := Lib.hid hf
  have HS := Lib.hid hs
  have HN := Lib.hid hn
  have HLEN := Lib.hid hlen
  clear hd hf hs hn hlen
  clear hi
  go_enter Tryz.func51, Tryz.ntmps51
  go_wp2_with (first | (go_at_call 73; (with_reducible refine (deep_no _ _ HD.out).mono ?_); rintro e w1 ⟨rfl, hbl⟩; have hb := Bu.of_below (g := g) hbl; have hp := PS.below (g := g) (toks := toks) (en := en) (at_ := (n : Int)) (Uq1 HP0.out) hbl; clear hbl; have HP1 := Lib.hid hp; have HB1 := Lib.hid (Bu.trans (g := g) (a := W.alloc nd0) (Uq2 HB0.out) hb); have BK1 := Lib.hid (hb.blk (k := W.heap.size) (o := nd0) (Uq3 BK0.out) (Nat.ne_of_gt HG.out)); clear hp hb; (try clear c0 c1 c2 c3 c4 c5 c6 c7 c8 c9 z0 z1 z2 z3 z4 z5 z6 z7 z8 z9 hsz); obtain ⟨⟨c0, c1, c2, c3, c4, c5, c6, c7, c8, c9⟩, z0, z1, z2, z3, z4, z5, z6, z7, z8, z9⟩ := z10 BK1.out; have hsz : W.heap.size < w1.heap.size := blk_lt BK1.out; have HZ1 := Lib.hid hsz) | (go_at_call 74; (fail_if_success have := HP2); (with_reducible refine (HF.out.ok g _ ?sp).mono ?_); (case sp => exact (Uq1 HP1.out)); rintro e w2 ⟨hp, hb, v2, rfl, hv⟩; obtain ⟨AA2, kk2, rfl⟩ := Kd.V_slice hv; have HV2 := Lib.hid (Kd.V_mono hv (fun k hk => lo (g := g) (o := nd0) (W := W) (Uq2 HB1.out) hk)); clear hv; have HP2 := Lib.hid hp; have HB2 := Lib.hid (Bu.trans (g := g) (a := W.alloc nd0) (Uq2 HB1.out) hb); have BK2 := Lib.hid (hb.blk (k := W.heap.size) (o := nd0) (Uq3 BK1.out) (Nat.ne_of_gt HG.out)); clear hp hb; (try clear c0 c1 c2 c3 c4 c5 c6 c7 c8 c9 z0 z1 z2 z3 z4 z5 z6 z7 z8 z9 hsz); obtain ⟨⟨c0, c1, c2, c3, c4, c5, c6, c7, c8, c9⟩, z0, z1, z2, z3, z4, z5, z6, z7, z8, z9⟩ := z10 BK2.out; have hsz : W.heap.size < w2.heap.size := blk_lt BK2.out; have HZ2 := Lib.hid hsz) | (go_at_call 75; (with_reducible refine (sign_of g toks en _ HN.out _ _ _ _ _ _ _ HS.out ?s1 HLEN.out _ ?sp ?s2 ?s3 ?s4).mono ?_); (case sp => exact (Uq1 HP2.out)); (case s1 => decide); (case s2 => exact strC_new (by simp) rfl (by decide)); (case s3 => decide); (case s4 => rfl); rintro e w3 ⟨rfl, hp, hb⟩; have HV2b := Lib.hid (vN.bu (ok := fun k => W.heap.size < k) (v := (.slice AA2 a.f4.length kk2)) (l := a.f4) (Uq8 HV2.out) hb (fun k hk => Nat.ne_of_gt (Nat.lt_trans HG.out hk))); have HP3 := Lib.hid hp; have HB3 := Lib.hid (Bu.trans (g := g) (a := W.alloc nd0) (Uq2 HB2.out) hb); have BK3 := Lib.hid (hb.blk (k := W.heap.size) (o := nd0) (Uq3 BK2.out) (Nat.ne_of_gt HG.out)); have BA := Lib.hid (hb.blk (k := w2.heap.size) (o := ndO a (.slice AA2 a.f4.length kk2)) (Uq3 BK2.out) (Nat.ne_of_gt (Nat.lt_trans HG.out HZ2.out))); clear hp hb; (try clear c0 c1 c2 c3 c4 c5 c6 c7 c8 c9 z0 z1 z2 z3 z4 z5 z6 z7 z8 z9 hsz); obtain ⟨⟨c0, c1, c2, c3, c4, c5, c6, c7, c8, c9⟩, z0, z1, z2, z3, z4, z5, z6, z7, z8, z9⟩ := z10 BK3.out; have hsz : W.heap.size < w3.heap.size := blk_lt BK3.out; have HZ3 := Lib.hid hsz; obtain ⟨⟨d0_0, d0_1, d0_2, d0_3, d0_4, d0_5, d0_6, d0_7, d0_8, d0_9⟩, -⟩ := z10 BA.out; have hd0_ := blk_lt BA.out))
  refine bodyPost_ret (results_ct rfl _ _ W.heap.size 31 _ (0, 0) _ rfl (Uq4 BK3.out) hu rfl (by kernel_rfl)) rfl ?_
  refine ⟨?_, ?_, (.slice AA2 a.f4.length kk2), ?_, Kd.V_mono ?_ (fun k hk => Nat.le_of_lt hk)⟩
  · exact (Uq5 HP3.out)
  · exact (Uq6 HB3.out)
  · rfl
  · exact (Uq9 HV2b.out)
set_option maxHeartbeats 8000000 in
set_option maxRecDepth 100000 in
theorem formula_bbad (toks : List Tok) (en i : Int) (n : Nat) (n1 n3 : Nat) (a : TN) (p c : Int) (hd : ¬ 40 < i) (hi : 0 ≤ i) (s : ByteArray) (n2 : Nat) (hs : signV toks n1 [⟨#[61]⟩, ⟨#[60, 62]⟩, ⟨#[60]⟩, ⟨#[60, 61]⟩, ⟨#[62]⟩, ⟨#[62, 61]⟩] = (s, true, n2)) (hn : n1 ≤ toks.length) (hlen : toks.length ≤ 1000000) (hf : Does 74 toks en i n (.ok a, n1)) (hg : Does 74 toks en i n2 (.bad p c, n3)) : Does 51 toks en i n (.bad p c, n3) := by
  intro g W hp
  have hu := Tryz.underlying31
  have HG := Lib.hid hp.lt
  have HP0 := Lib.hid (hp.alloc nd0)
  have HB0 := Lib.hid (Bu.refl g (W.alloc nd0))
  have BK0 := Lib.hid (blk_new W nd0)
  have HPW := Lib.hid hp
  clear hp
  have HD := Lib.hid hd
  have HF := Lib.hid hf
  have HH := Lib.hid hg
  have HS := Lib.hid hs
  have HN := Lib.hid hn
  have HLEN := Lib.hid hlen
  clear hd hf hg hs hn hlen
  clear hi
  go_enter Tryz.func51, Tryz.ntmps51
  go_wp2_with (first | (go_at_call 73; (with_reducible refine (deep_no _ _ HD.out).mono ?_); rintro e w1 ⟨rfl, hbl⟩; have hb := Bu.of_below (g := g) hbl; have hp := PS.below (g := g) (toks := toks) (en := en) (at_ := (n : Int)) (Uq1 HP0.out) hbl; clear hbl; have HP1 := Lib.hid hp; have HB1 := Lib.hid (Bu.trans (g := g) (a := W.alloc nd0) (Uq2 HB0.out) hb); have BK1 := Lib.hid (hb.blk (k := W.heap.size) (o := nd0) (Uq3 BK0.out) (Nat.ne_of_gt HG.out)); clear hp hb; (try clear c0 c1 c2 c3 c4 c5 c6 c7 c8 c9 z0 z1 z2 z3 z4 z5 z6 z7 z8 z9 hsz); obtain ⟨⟨c0, c1, c2, c3, c4, c5, c6, c7, c8, c9⟩, z0, z1, z2, z3, z4, z5, z6, z7, z8, z9⟩ := z10 BK1.out; have hsz : W.heap.size < w1.heap.size := blk_lt BK1.out; have HZ1 := Lib.hid hsz) | (go_at_call 74; (fail_if_success have := HP2); (with_reducible refine (HF.out.ok g _ ?sp).mono ?_); (case sp => exact (Uq1 HP1.out)); rintro e w2 ⟨hp, hb, v2, rfl, hv⟩; obtain ⟨AA2, kk2, rfl⟩ := Kd.V_slice hv; have HV2 := Lib.hid (Kd.V_mono hv (fun k hk => lo (g := g) (o := nd0) (W := W) (Uq2 HB1.out) hk)); clear hv; have HP2 := Lib.hid hp; have HB2 := Lib.hid (Bu.trans (g := g) (a := W.alloc nd0) (Uq2 HB1.out) hb); have BK2 := Lib.hid (hb.blk (k := W.heap.size) (o := nd0) (Uq3 BK1.out) (Nat.ne_of_gt HG.out)); clear hp hb; (try clear c0 c1 c2 c3 c4 c5 c6 c7 c8 c9 z0 z1 z2 z3 z4 z5 z6 z7 z8 z9 hsz); obtain ⟨⟨c0, c1, c2, c3, c4, c5, c6, c7, c8, c9⟩, z0, z1, z2, z3, z4, z5, z6, z7, z8, z9⟩ := z10 BK2.out; have hsz : W.heap.size < w2.heap.size := blk_lt BK2.out; have HZ2 := Lib.hid hsz) | (go_at_call 75; (with_reducible refine (sign_of g toks en _ HN.out _ _ _ _ _ _ _ HS.out ?s1 HLEN.out _ ?sp ?s2 ?s3 ?s4).mono ?_); (case sp => exact (Uq1 HP2.out)); (case s1 => decide); (case s2 => exact strC_new (by simp) rfl (by decide)); (case s3 => decide); (case s4 => rfl); rintro e w3 ⟨rfl, hp, hb⟩; have HV2b := Lib.hid (vN.bu (ok := fun k => W.heap.size < k) (v := (.slice AA2 a.f4.length kk2)) (l := a.f4) (Uq8 HV2.out) hb (fun k hk => Nat.ne_of_gt (Nat.lt_trans HG.out hk))); have HP3 := Lib.hid hp; have HB3 := Lib.hid (Bu.trans (g := g) (a := W.alloc nd0) (Uq2 HB2.out) hb); have BK3 := Lib.hid (hb.blk (k := W.heap.size) (o := nd0) (Uq3 BK2.out) (Nat.ne_of_gt HG.out)); have BA := Lib.hid (hb.blk (k := w2.heap.size) (o := ndO a (.slice AA2 a.f4.length kk2)) (Uq3 BK2.out) (Nat.ne_of_gt (Nat.lt_trans HG.out HZ2.out))); clear hp hb; (try clear c0 c1 c2 c3 c4 c5 c6 c7 c8 c9 z0 z1 z2 z3 z4 z5 z6 z7 z8 z9 hsz); obtain ⟨⟨c0, c1, c2, c3, c4, c5, c6, c7, c8, c9⟩, z0, z1, z2, z3, z4, z5, z6, z7, z8, z9⟩ := z10 BK3.out; have hsz : W.heap.size < w3.heap.size := blk_lt BK3.out; have HZ3 := Lib.hid hsz; obtain ⟨⟨d0_0, d0_1, d0_2, d0_3, d0_4, d0_5, d0_6, d0_7, d0_8, d0_9⟩, -⟩ := z10 BA.out; have hd0_ := blk_lt BA.out) | (go_at_call 74; (with_reducible refine (HH.out.bad g _ ?sp).mono ?_); (case sp => exact (Uq1 HP3.out)); rintro e w4 ⟨hp, hb, q, rfl, he, hq⟩; have HE := Lib.hid he; have HQ := Lib.hid (lo (g := g) (o := nd0) (W := W) (Uq2 HB3.out) hq); clear he hq; have HP4 := Lib.hid hp; have HB4 := Lib.hid (Bu.trans (g := g) (a := W.alloc nd0) (Uq2 HB3.out) hb); have BK4 := Lib.hid (hb.blk (k := W.heap.size) (o := nd0) (Uq3 BK3.out) (Nat.ne_of_gt HG.out)); clear hp hb; (try clear c0 c1 c2 c3 c4 c5 c6 c7 c8 c9 z0 z1 z2 z3 z4 z5 z6 z7 z8 z9 hsz); obtain ⟨⟨c0, c1, c2, c3, c4, c5, c6, c7, c8, c9⟩, z0, z1, z2, z3, z4, z5, z6, z7, z8, z9⟩ := z10 BK4.out; have hsz : W.heap.size < w4.heap.size := blk_lt BK4.out; have HZ4 := Lib.hid hsz))
  refine bodyPost_ret (results_ct rfl _ _ W.heap.size 31 _ (0, 0) _ rfl (Uq4 BK4.out) hu rfl (by kernel_rfl)) rfl ?_
  refine ⟨?_, ?_, q, ?_, ?_, Nat.le_of_lt HQ.out⟩
  · exact (Uq5 HP4.out)
  · exact (Uq6 HB4.out)
  · rfl
  · exact (Uq7 HE.out)
set_option maxHeartbeats 8000000 in
set_option maxRecDepth 100000 in
theorem formula_two (toks : List Tok) (en i : Int) (n : Nat) (n1 n3 : Nat) (a b : TN) (hd : ¬ 40 < i) (hi : 0 ≤ i) (s : ByteArray) (n2 : Nat) (hs : signV toks n1 [⟨#[61]⟩, ⟨#[60, 62]⟩, ⟨#[60]⟩, ⟨#[60, 61]⟩, ⟨#[62]⟩, ⟨#[62, 61]⟩] = (s, true, n2)) (hn : n1 ≤ toks.length) (hlen : toks.length ≤ 1000000) (hf : Does 74 toks en i n (.ok a, n1)) (hg : Does 74 toks en i n2 (.ok b, n3)) : Does 51 toks en i n (.ok (twoT s a b), n3) := by
  intro g W hp
  have hu := Tryz.underlying31
  have HG := Lib.hid hp.lt
  have HP0 := Lib.hid (hp.alloc nd0)
  have HB0 := Lib.hid (Bu.refl g (W.alloc nd0))
  have BK0 := Lib.hid (blk_new W nd0)
  have HPW := Lib.hid hp
  clear hp
  have HD := Lib.hid hd
  have HF := Lib.hid hf
  have HH := Lib.hid hg
  have HS := Lib.hid hs
  have HN := Lib.hid hn
  have HLEN := Lib.hid hlen
  clear hd hf hg hs hn hlen
  clear hi
  go_enter Tryz.func51, Tryz.ntmps51
  go_wp2_with (first | (go_at_call 73; (with_reducible refine (deep_no _ _ HD.out).mono ?_); rintro e w1 ⟨rfl, hbl⟩; have hb := Bu.of_below (g := g) hbl; have hp := PS.below (g := g) (toks := toks) (en := en) (at_ := (n : Int)) (Uq1 HP0.out) hbl; clear hbl; have HP1 := Lib.hid hp; have HB1 := Lib.hid (Bu.trans (g := g) (a := W.alloc nd0) (Uq2 HB0.out) hb); have BK1 := Lib.hid (hb.blk (k := W.heap.size) (o := nd0) (Uq3 BK0.out) (Nat.ne_of_gt HG.out)); clear hp hb; (try clear c0 c1 c2 c3 c4 c5 c6 c7 c8 c9 z0 z1 z2 z3 z4 z5 z6 z7 z8 z9 hsz); obtain ⟨⟨c0, c1, c2, c3, c4, c5, c6, c7, c8, c9⟩, z0, z1, z2, z3, z4, z5, z6, z7, z8, z9⟩ := z10 BK1.out; have hsz : W.heap.size < w1.heap.size := blk_lt BK1.out; have HZ1 := Lib.hid hsz) | (go_at_call 74; (fail_if_success have := HP2); (with_reducible refine (HF.out.ok g _ ?sp).mono ?_); (case sp => exact (Uq1 HP1.out)); rintro e w2 ⟨hp, hb, v2, rfl, hv⟩; obtain ⟨AA2, kk2, rfl⟩ := Kd.V_slice hv; have HV2 := Lib.hid (Kd.V_mono hv (fun k hk => lo (g := g) (o := nd0) (W := W) (Uq2 HB1.out) hk)); clear hv; have HP2 := Lib.hid hp; have HB2 := Lib.hid (Bu.trans (g := g) (a := W.alloc nd0) (Uq2 HB1.out) hb); have BK2 := Lib.hid (hb.blk (k := W.heap.size) (o := nd0) (Uq3 BK1.out) (Nat.ne_of_gt HG.out)); clear hp hb; (try clear c0 c1 c2 c3 c4 c5 c6 c7 c8 c9 z0 z1 z2 z3 z4 z5 z6 z7 z8 z9 hsz); obtain ⟨⟨c0, c1, c2, c3, c4, c5, c6, c7, c8, c9⟩, z0, z1, z2, z3, z4, z5, z6, z7, z8, z9⟩ := z10 BK2.out; have hsz : W.heap.size < w2.heap.size := blk_lt BK2.out; have HZ2 := Lib.hid hsz) | (go_at_call 75; (with_reducible refine (sign_of g toks en _ HN.out _ _ _ _ _ _ _ HS.out ?s1 HLEN.out _ ?sp ?s2 ?s3 ?s4).mono ?_); (case sp => exact (Uq1 HP2.out)); (case s1 => decide); (case s2 => exact strC_new (by simp) rfl (by decide)); (case s3 => decide); (case s4 => rfl); rintro e w3 ⟨rfl, hp, hb⟩; have HV2b := Lib.hid (vN.bu (ok := fun k => W.heap.size < k) (v := (.slice AA2 a.f4.length kk2)) (l := a.f4) (Uq8 HV2.out) hb (fun k hk => Nat.ne_of_gt (Nat.lt_trans HG.out hk))); have HP3 := Lib.hid hp; have HB3 := Lib.hid (Bu.trans (g := g) (a := W.alloc nd0) (Uq2 HB2.out) hb); have BK3 := Lib.hid (hb.blk (k := W.heap.size) (o := nd0) (Uq3 BK2.out) (Nat.ne_of_gt HG.out)); have BA := Lib.hid (hb.blk (k := w2.heap.size) (o := ndO a (.slice AA2 a.f4.length kk2)) (Uq3 BK2.out) (Nat.ne_of_gt (Nat.lt_trans HG.out HZ2.out))); clear hp hb; (try clear c0 c1 c2 c3 c4 c5 c6 c7 c8 c9 z0 z1 z2 z3 z4 z5 z6 z7 z8 z9 hsz); obtain ⟨⟨c0, c1, c2, c3, c4, c5, c6, c7, c8, c9⟩, z0, z1, z2, z3, z4, z5, z6, z7, z8, z9⟩ := z10 BK3.out; have hsz : W.heap.size < w3.heap.size := blk_lt BK3.out; have HZ3 := Lib.hid hsz; obtain ⟨⟨d0_0, d0_1, d0_2, d0_3, d0_4, d0_5, d0_6, d0_7, d0_8, d0_9⟩, -⟩ := z10 BA.out; have hd0_ := blk_lt BA.out) | (go_at_call 74; (fail_if_success have := HP4); (with_reducible refine (HH.out.ok g _ ?sp).mono ?_); (case sp => exact (Uq1 HP3.out)); rintro e w4 ⟨hp, hb, v4, rfl, hv⟩; obtain ⟨AA4, kk4, rfl⟩ := Kd.V_slice hv; have HV4 := Lib.hid (Kd.V_mono hv (fun k hk => lo (g := g) (o := nd0) (W := W) (Uq2 HB3.out) hk)); clear hv; have HV2bb := Lib.hid (vN.bu (ok := fun k => W.heap.size < k) (v := (.slice AA2 a.f4.length kk2)) (l := a.f4) (Uq8 HV2b.out) hb (fun k hk => Nat.ne_of_gt (Nat.lt_trans HG.out hk))); have HP4 := Lib.hid hp; have HB4 := Lib.hid (Bu.trans (g := g) (a := W.alloc nd0) (Uq2 HB3.out) hb); have BK4 := Lib.hid (hb.blk (k := W.heap.size) (o := nd0) (Uq3 BK3.out) (Nat.ne_of_gt HG.out)); have BA2 := Lib.hid (hb.blk (k := w2.heap.size) (o := ndO a (.slice AA2 a.f4.length kk2)) (Uq3 BA.out) (Nat.ne_of_gt (Nat.lt_trans HG.out HZ2.out))); clear hp hb; (try clear c0 c1 c2 c3 c4 c5 c6 c7 c8 c9 z0 z1 z2 z3 z4 z5 z6 z7 z8 z9 hsz); obtain ⟨⟨c0, c1, c2, c3, c4, c5, c6, c7, c8, c9⟩, z0, z1, z2, z3, z4, z5, z6, z7, z8, z9⟩ := z10 BK4.out; have hsz : W.heap.size < w4.heap.size := blk_lt BK4.out; have HZ4 := Lib.hid hsz; obtain ⟨⟨d0_0, d0_1, d0_2, d0_3, d0_4, d0_5, d0_6, d0_7, d0_8, d0_9⟩, -⟩ := z10 BA2.out; have hd0_ := blk_lt BA2.out) | (go_at_call 76; (with_reducible refine (two_calls (fun k => W.heap.size < k) _ a b (.slice AA2 a.f4.length kk2) (.slice AA4 b.f4.length kk4) _ ?sk ?sa ?sb).mono ?_); (case sk => exact (fun k hk => lo (g := g) (o := nd0) (W := W) (Uq2 HB4.out) hk)); (case sa => exact (Uq8 HV2bb.out)); (case sb => exact (Uq8 HV4.out)); rintro e w5 ⟨v5, rfl, hv, hbl⟩; obtain ⟨AA5, kk5, rfl⟩ := Kd.V_slice hv; have HV5 := Lib.hid hv; clear hv; have hb := Bu.of_below (g := g) hbl; have hp := PS.below (g := g) (toks := toks) (en := en) (at_ := (n3 : Int)) (Uq1 HP4.out) hbl; clear hbl; have HP5 := Lib.hid hp; have HB5 := Lib.hid (Bu.trans (g := g) (a := W.alloc nd0) (Uq2 HB4.out) hb); have BK5 := Lib.hid (hb.blk (k := W.heap.size) (o := nd0) (Uq3 BK4.out) (Nat.ne_of_gt HG.out)); clear hp hb; (try clear c0 c1 c2 c3 c4 c5 c6 c7 c8 c9 z0 z1 z2 z3 z4 z5 z6 z7 z8 z9 hsz); obtain ⟨⟨c0, c1, c2, c3, c4, c5, c6, c7, c8, c9⟩, z0, z1, z2, z3, z4, z5, z6, z7, z8, z9⟩ := z10 BK5.out; have hsz : W.heap.size < w5.heap.size := blk_lt BK5.out; have HZ5 := Lib.hid hsz))
  refine bodyPost_ret (results_ct rfl _ _ W.heap.size 31 _ (0, 0) _ rfl (Uq4 BK5.out) hu rfl (by kernel_rfl)) rfl ?_
  refine ⟨?_, ?_, (.slice AA5 (twoT s a b).f4.length kk5), ?_, Kd.V_mono ?_ (fun k hk => Nat.le_of_lt hk)⟩
  · exact (Uq5 HP5.out)
  · exact (Uq6 HB5.out)
  · rfl
  · exact (Uq9 HV5.out)
end Go.Proofs.YtnomfbmebafolaaGreatDoor.P

namespace Go.Proofs.YtnomfbmebafolaaGreatDoor.P
open Go.RowKit Go.Proofs.YtnomfbmebafolaaGreatDoorW.PrintWords Go.Proofs.YtnomfbmebafolaaGreatDoorW.PrintLast Go.Proofs.YtnomfbmebafolaaGreatDoorW.PrintMore
attribute [local go_sem] max2_int min2_int max_two min_two max_three min_three max_four min_four   -- for this text's walks alone
set_option linter.unusedVariables false
set_option linter.unusedSimpArgs false
def value_Fail.f (a0 : Int) : Option (Int × Int × ByteArray) := if a0 < 1 then (some (0, 0, (⟨#[]⟩ : ByteArray))) else (if a0 > 8 then (some (0, 0, (⟨#[]⟩ : ByteArray))) else (some (4, a0, (⟨#[]⟩ : ByteArray))))
set_option maxHeartbeats 8000000 in
set_option maxRecDepth 100000 in
theorem value_Fail.calls (a0 : Int) (r1 : Int) (r2 : Int) (r3 : ByteArray) (w : World) (h : value_Fail.f a0 = some (r1, r2, r3)) :
    Calls Tryz.prog 60 #[.int .i64 a0] w fun e w' => e = .returned (.agg #[.int .i64 r1, .int .i64 r2, .string r3]) ∧ Below w.heap.size w w' := by
  have hu24 := Tryz.underlying24
  have HB := Aside0.mk (Below.refl w.heap.size w)
  have H : (if a0 < 1 then (some (0, 0, (⟨#[]⟩ : ByteArray))) else (if a0 > 8 then (some (0, 0, (⟨#[]⟩ : ByteArray))) else (some (4, a0, (⟨#[]⟩ : ByteArray))))) = some (r1, r2, r3) := h
  clear h
  by_cases c2 : a0 < 1
  · rw [if_pos c2] at H
    have c2b0 : decide (a0 < 1) = true := decide_eq_true c2
    clear c2
    simp only [Option.some.injEq, Prod.mk.injEq] at H
    obtain ⟨rfl, rfl, rfl⟩ := H
    go_enter Tryz.func60, Tryz.ntmps60
    go_wp2_with (first | ((with_reducible refine gate_dst (N := 2) rfl ?_); refine box_event ?hg (N := 2) ?hd (cs := #[.int .i64 0, .int .i64 0, .string (⟨#[]⟩ : ByteArray)]) (t := 24) ?hr ?_; (case hd => rfl); (case hg => rfl); (case hr => first | (go_simp; done) | (go_simp; rfl)); intro gb162 hg w3 hbox hb; have n0_ := Aside0.mk (below_step zz1 hb); have n1_ := Aside0.mk (hbox); have n2_ := Aside0.mk ((by rw [hg]; exact (below_size zz1) : w.heap.size ≤ gb162)); have n3_ := n2_; clear HB; have HB := n0_; have BK162 := n1_; have GW162 := n2_; have GE162 := n3_; clear n0_ n1_ n2_ n3_; clear hb hbox hg; obtain ⟨_, _, _, _, _, _⟩ := zC3 BK162.out))
    refine bodyPost_ret (results_cell_row rfl _ _ gb162 24 #[.int .i64 0, .int .i64 0, .string (⟨#[]⟩ : ByteArray)] (0, 0) _ rfl (by refine zB ?_; refine blk_put (cs := #[.int .i64 0, .int .i64 0, .string (⟨#[]⟩ : ByteArray)]) ?_ 2 _ rfl; refine zB ?_; refine blk_put (cs := #[.int .i64 0, .int .i64 0, .string (⟨#[]⟩ : ByteArray)]) ?_ 1 _ rfl; refine zB ?_; refine blk_put (cs := #[.int .i64 0, .int .i64 0, .string (⟨#[]⟩ : ByteArray)]) ?_ 0 _ rfl; refine zB ?_; exact BK162.out) Tryz.underlying24 rfl (by kernel_rfl)) rfl ?_
    exact ⟨zz26, zz21⟩
  · rw [if_neg c2] at H
    have c2b0 : decide (a0 < 1) = false := decide_eq_false c2
    clear c2
    by_cases c5 : a0 > 8
    · rw [if_pos c5] at H
      have c5b0 : decide (8 < a0) = true := decide_eq_true c5
      clear c5
      simp only [Option.some.injEq, Prod.mk.injEq] at H
      obtain ⟨rfl, rfl, rfl⟩ := H
      go_enter Tryz.func60, Tryz.ntmps60
      go_wp2_with (first | ((with_reducible refine gate_dst (N := 2) rfl ?_); refine box_event ?hg (N := 2) ?hd (cs := #[.int .i64 0, .int .i64 0, .string (⟨#[]⟩ : ByteArray)]) (t := 24) ?hr ?_; (case hd => rfl); (case hg => rfl); (case hr => first | (go_simp; done) | (go_simp; rfl)); intro gb162 hg w6 hbox hb; have n0_ := Aside0.mk (below_step zz1 hb); have n1_ := Aside0.mk (hbox); have n2_ := Aside0.mk ((by rw [hg]; exact (below_size zz1) : w.heap.size ≤ gb162)); have n3_ := n2_; clear HB; have HB := n0_; have BK162 := n1_; have GW162 := n2_; have GE162 := n3_; clear n0_ n1_ n2_ n3_; clear hb hbox hg; obtain ⟨_, _, _, _, _, _⟩ := zC3 BK162.out))
      refine bodyPost_ret (results_cell_row rfl _ _ gb162 24 #[.int .i64 0, .int .i64 0, .string (⟨#[]⟩ : ByteArray)] (0, 0) _ rfl (by refine zB ?_; refine blk_put (cs := #[.int .i64 0, .int .i64 0, .string (⟨#[]⟩ : ByteArray)]) ?_ 2 _ rfl; refine zB ?_; refine blk_put (cs := #[.int .i64 0, .int .i64 0, .string (⟨#[]⟩ : ByteArray)]) ?_ 1 _ rfl; refine zB ?_; refine blk_put (cs := #[.int .i64 0, .int .i64 0, .string (⟨#[]⟩ : ByteArray)]) ?_ 0 _ rfl; refine zB ?_; exact BK162.out) Tryz.underlying24 rfl (by kernel_rfl)) rfl ?_
      exact ⟨zz26, zz21⟩
    · rw [if_neg c5] at H
      have c5b0 : decide (8 < a0) = false := decide_eq_false c5
      clear c5
      simp only [Option.some.injEq, Prod.mk.injEq] at H
      obtain ⟨rfl, rfl, rfl⟩ := H
      go_enter Tryz.func60, Tryz.ntmps60
      go_wp2_with (first | ((with_reducible refine gate_dst (N := 2) rfl ?_); refine box_event ?hg (N := 2) ?hd (cs := #[.int .i64 0, .int .i64 0, .string (⟨#[]⟩ : ByteArray)]) (t := 24) ?hr ?_; (case hd => rfl); (case hg => rfl); (case hr => first | (go_simp; done) | (go_simp; rfl)); intro gb162 hg w8 hbox hb; have n0_ := Aside0.mk (below_step zz1 hb); have n1_ := Aside0.mk (hbox); have n2_ := Aside0.mk ((by rw [hg]; exact (below_size zz1) : w.heap.size ≤ gb162)); have n3_ := n2_; clear HB; have HB := n0_; have BK162 := n1_; have GW162 := n2_; have GE162 := n3_; clear n0_ n1_ n2_ n3_; clear hb hbox hg; obtain ⟨_, _, _, _, _, _⟩ := zC3 BK162.out))
      refine bodyPost_ret (results_cell_row rfl _ _ gb162 24 #[.int .i64 4, .int .i64 a0, .string (⟨#[]⟩ : ByteArray)] (0, 0) _ rfl (by refine zB ?_; refine blk_put (cs := #[.int .i64 4, .int .i64 a0, .string (⟨#[]⟩ : ByteArray)]) ?_ 2 _ rfl; refine zB ?_; refine blk_put (cs := #[.int .i64 4, .int .i64 0, .string (⟨#[]⟩ : ByteArray)]) ?_ 1 _ rfl; refine zB ?_; refine blk_put (cs := #[.int .i64 0, .int .i64 0, .string (⟨#[]⟩ : ByteArray)]) ?_ 0 _ rfl; refine zB ?_; exact BK162.out) Tryz.underlying24 rfl (by kernel_rfl)) rfl ?_
      exact ⟨zz26, zz21⟩
end Go.Proofs.YtnomfbmebafolaaGreatDoor.P

namespace Go.Proofs.YtnomfbmebafolaaGreatDoor.P
open Go.RowKit Go.Proofs.YtnomfbmebafolaaGreatDoorW.PrintWords Go.Proofs.YtnomfbmebafolaaGreatDoorW.PrintLast Go.Proofs.YtnomfbmebafolaaGreatDoorW.PrintMore
attribute [local go_sem] max2_int min2_int max_two min_two max_three min_three max_four min_four   -- for this text's walks alone
set_option linter.unusedVariables false
set_option linter.unusedSimpArgs false
def value_Of.f (a0 : ByteArray) : Option (Int × Int × ByteArray) := if (a0.size : Int) > 200 then ((value_Fail.f 7).bind fun bt164 => (some (bt164.1, bt164.2.1, bt164.2.2))) else (some (3, 0, a0))
set_option maxHeartbeats 8000000 in
set_option maxRecDepth 100000 in
theorem value_Of.calls (a0 : ByteArray) (r1 : Int) (r2 : Int) (r3 : ByteArray) (w : World) (h : value_Of.f a0 = some (r1, r2, r3)) :
    Calls Tryz.prog 40 #[.string a0] w fun e w' => e = .returned (.agg #[.int .i64 r1, .int .i64 r2, .string r3]) ∧ Below w.heap.size w w' := by
  have hu24 := Tryz.underlying24
  have HB := Aside0.mk (Below.refl w.heap.size w)
  have H : (if (a0.size : Int) > 200 then ((value_Fail.f 7).bind fun bt164 => (some (bt164.1, bt164.2.1, bt164.2.2))) else (some (3, 0, a0))) = some (r1, r2, r3) := h
  clear h
  by_cases c2 : (a0.size : Int) > 200
  · rw [if_pos c2] at H
    have c2b0 : decide (200 < (a0.size : Int)) = true := decide_eq_true c2
    have c2b1 : decide (200 < a0.size) = true := decide_eq_true (by omega)
    clear c2
    replace H := Option.bind_eq_some_iff.mp H
    obtain ⟨⟨t164, t165, t166⟩, A30, H⟩ := H
    replace H : (some (t164, t165, t166)) = some (r1, r2, r3) := H
    have A3 := Aside0.mk A30
    clear A30
    simp only [Option.some.injEq, Prod.mk.injEq] at H
    obtain ⟨rfl, rfl, rfl⟩ := H
    go_enter Tryz.func40, Tryz.ntmps40
    go_wp2_with (first | ((with_reducible refine gate_dst (N := 2) rfl ?_); refine box_event ?hg (N := 2) ?hd (cs := #[.int .i64 0, .int .i64 0, .string (⟨#[]⟩ : ByteArray)]) (t := 24) ?hr ?_; (case hd => rfl); (case hg => rfl); (case hr => first | (go_simp; done) | (go_simp; rfl)); intro gb163 hg w4 hbox hb; have n0_ := Aside0.mk (below_step zz1 hb); have n1_ := Aside0.mk (hbox); have n2_ := Aside0.mk ((by rw [hg]; exact (below_size zz1) : w.heap.size ≤ gb163)); have n3_ := n2_; clear HB; have HB := n0_; have BK163 := n1_; have GW163 := n2_; have GE163 := n3_; clear n0_ n1_ n2_ n3_; clear hb hbox hg) | ((with_reducible refine gate_callee (f := 60) rfl ?_); refine goesL_ (some 6) rfl rfl Tryz.func60 (by kernel_rfl) rfl #[.int .i64 7] rfl zz25 ?_; (with_reducible refine (value_Fail.calls 7 t164 t165 t166 _ A3.out).mono ?_); rintro e w5 ⟨rfl, hb⟩; refine ⟨_, rfl, ?_⟩; have n0_ := Aside0.mk (blk_below (g := gb163) (o := .cells #[.int .i64 0, .int .i64 0, .string (⟨#[]⟩ : ByteArray)] 24 (0, 0)) (zB BK163.out) hb); have n1_ := Aside0.mk (below_step zz22 hb); clear BK163; clear HB; have BK163 := n0_; have HB := n1_; clear n0_ n1_; (try clear hb); (try clear hb2); (try clear hk); (try clear hi); obtain ⟨_, _, _, _, _, _⟩ := zC3 BK163.out))
    refine bodyPost_ret (results_cell_row rfl _ _ gb163 24 #[.int .i64 t164, .int .i64 t165, .string t166] (0, 0) _ rfl (by refine zB ?_; refine blk_put (cs := #[.int .i64 t164, .int .i64 t165, .string (⟨#[]⟩ : ByteArray)]) ?_ 2 _ rfl; refine zB ?_; refine blk_put (cs := #[.int .i64 t164, .int .i64 0, .string (⟨#[]⟩ : ByteArray)]) ?_ 1 _ rfl; refine zB ?_; refine blk_put (cs := #[.int .i64 0, .int .i64 0, .string (⟨#[]⟩ : ByteArray)]) ?_ 0 _ rfl; refine zB ?_; exact BK163.out) Tryz.underlying24 rfl (by kernel_rfl)) rfl ?_
    exact ⟨zz26, zz22⟩
  · rw [if_neg c2] at H
    have c2b0 : decide (200 < (a0.size : Int)) = false := decide_eq_false c2
    have c2b1 : decide (200 < a0.size) = false := decide_eq_false (by omega)
    clear c2
    simp only [Option.some.injEq, Prod.mk.injEq] at H
    obtain ⟨rfl, rfl, rfl⟩ := H
    go_enter Tryz.func40, Tryz.ntmps40
    go_wp2_with (first | ((with_reducible refine gate_dst (N := 2) rfl ?_); refine box_event ?hg (N := 2) ?hd (cs := #[.int .i64 0, .int .i64 0, .string (⟨#[]⟩ : ByteArray)]) (t := 24) ?hr ?_; (case hd => rfl); (case hg => rfl); (case hr => first | (go_simp; done) | (go_simp; rfl)); intro gb163 hg w7 hbox hb; have n0_ := Aside0.mk (below_step zz1 hb); have n1_ := Aside0.mk (hbox); have n2_ := Aside0.mk ((by rw [hg]; exact (below_size zz1) : w.heap.size ≤ gb163)); have n3_ := n2_; clear HB; have HB := n0_; have BK163 := n1_; have GW163 := n2_; have GE163 := n3_; clear n0_ n1_ n2_ n3_; clear hb hbox hg; obtain ⟨_, _, _, _, _, _⟩ := zC3 BK163.out))
    refine bodyPost_ret (results_cell_row rfl _ _ gb163 24 #[.int .i64 3, .int .i64 0, .string a0] (0, 0) _ rfl (by refine zB ?_; refine blk_put (cs := #[.int .i64 3, .int .i64 0, .string (⟨#[]⟩ : ByteArray)]) ?_ 2 _ rfl; refine zB ?_; refine blk_put (cs := #[.int .i64 3, .int .i64 0, .string (⟨#[]⟩ : ByteArray)]) ?_ 1 _ rfl; refine zB ?_; refine blk_put (cs := #[.int .i64 0, .int .i64 0, .string (⟨#[]⟩ : ByteArray)]) ?_ 0 _ rfl; refine zB ?_; exact BK163.out) Tryz.underlying24 rfl (by kernel_rfl)) rfl ?_
    exact ⟨zz26, zz22⟩
end Go.Proofs.YtnomfbmebafolaaGreatDoor.P

namespace Go.Proofs.YtnomfbmebafolaaGreatDoor.P
open Go.RowKit Go.Proofs.YtnomfbmebafolaaGreatDoorW.PrintWords Go.Proofs.YtnomfbmebafolaaGreatDoorW.PrintLast Go.Proofs.YtnomfbmebafolaaGreatDoorW.PrintMore
open M (I64)
set_option linter.unusedVariables false
set_option linter.unusedSimpArgs false
theorem PS.drewN {g : Nat} {toks : List Tok} {en at_ : Int} {W : World} (h : PS g toks en at_ W) (m : Nat) : PS g toks en at_ (W.drewN m) := h.below (pw_below_drewN (Below.refl _ _) m)
theorem Bu.to_drewN {g : Nat} {W V : World} (h : Bu g W V) (m : Nat) : Bu g W (V.drewN m) := h.trans (.of_below (pw_below_drewN (Below.refl _ _) m))
theorem Uq10 {p q : Prop} (h0 : p) (h : p → q := by intro h_; with_reducible repeat (first | exact h_ | refine PS.alloc ?_ _ | refine PS.drewN ?_ _)) : q := h h0
theorem Uq11 {p q : Prop} (h0 : p) (h : p → q := by intro h_; with_reducible repeat (first | exact h_ | exact Bu.refl _ _ | refine Bu.to_alloc ?_ _ | refine Bu.to_drewN ?_ _)) : q := h h0
theorem Uq12 {p q : Prop} (h0 : p) (h : p → q := by intro h_; with_reducible repeat (first | exact h_ | refine PS.alloc ?_ _ | refine PS.drewN ?_ _ | refine PS.drew ?_ | refine PS.put (at_ := (n : Int)) ?_ _ | refine put10_ps ?_ HG.out _ _ _ _ _ _ _ _ _ _)) : q := h h0
theorem Uq13 {p q : Prop} (h0 : p) (h : p → q := by intro h_; with_reducible repeat (first | exact (Bu.alloc g W nd0).trans h_ | refine Bu.to_alloc ?_ _ | refine Bu.to_drewN ?_ _ | refine Bu.to_drew ?_ | refine Bu.to_set ?_ _ _ | refine put10_bu ?_ (Nat.le_refl _) _ _ _ _ _ _ _ _ _ _)) : q := h h0
theorem Uq14 {p q : Prop} (h0 : p) (h : p → q := by intro h_; with_reducible repeat (first | exact h_ | exact Bu.refl _ _ | refine Bu.to_alloc ?_ _ | refine Bu.to_drewN ?_ _ | refine Bu.to_drew ?_ | refine Bu.to_set ?_ _ _ | refine put10_bu ?_ (Nat.le_refl _) _ _ _ _ _ _ _ _ _ _)) : q := h h0
theorem Uq15 {p q : Prop} (h0 : p) (h : p → q := by intro h_; with_reducible repeat (first | exact h_ | exact blk_new _ _ | refine blk_alloc ?_ _ | refine blk_drewN ?_ _ | refine blk_drew ?_ | refine blk_set ?_ (Nat.ne_of_gt HG.out) _)) : q := h h0
theorem Uq16 {p q : Prop} (h0 : p) (h : p → q := by intro h_; with_reducible repeat (first | exact put10_blk h_ _ _ _ _ _ _ _ _ _ _ | refine put10_nd ?_ _ _ _ _ _ _ _ _ _ _ | exact BK1.out | exact blk_new _ _ | refine blk_alloc ?_ _ | refine blk_drewN ?_ _ | refine blk_drew ?_ | refine blk_set ?_ (Nat.ne_of_gt HG.out) _)) : q := h h0
theorem Uq17 {p q : Prop} (h0 : p) (h : p → q := by intro h_; with_reducible repeat (first | exact put10_blk h_ _ _ _ _ _ _ _ _ _ _ | refine put10_nd ?_ _ _ _ _ _ _ _ _ _ _ | exact BK2.out | exact blk_new _ _ | refine blk_alloc ?_ _ | refine blk_drewN ?_ _ | refine blk_drew ?_ | refine blk_set ?_ (Nat.ne_of_gt HG.out) _)) : q := h h0
set_option maxHeartbeats 8000000 in
set_option maxRecDepth 100000 in
theorem part_end (toks : List Tok) (en i : Int) (n : Nat) (hn : n = toks.length) : Does 132 toks en i n (.bad (placeV toks en n) 13, n) := by
  intro g W hp
  have hu := Tryz.underlying31
  have HG := Lib.hid hp.lt
  have HP0 := Lib.hid (hp.alloc nd0)
  have HB0 := Lib.hid (Bu.refl g (W.alloc nd0))
  have BK0 := Lib.hid (blk_new W nd0)
  have HPW := Lib.hid hp
  clear hp
  obtain ⟨At, ct, p0, p1, p2, y1, hpb, hpF⟩ := (HP0.out).cells
  have HPF := Lib.hid hpF
  clear hpb hpF y1
  have hq : ((n : Int) == (toks.length : Int)) = true := by subst hn; simp
  have HN := Lib.hid (Nat.le_of_eq hn)
  clear hn
  go_enter Tryz.func132, Tryz.ntmps132
  go_wp2_with (first | (go_at_call 52; (with_reducible refine (fail_calls g toks en n HN.out _ ?sp).mono ?_); (case sp => exact (Uq10 HP0.out)); rintro e w1 ⟨q, rfl, he, hq, hbl⟩; have HE := Lib.hid he; have HQ := Lib.hid (lo (g := g) (o := nd0) (W := W) (Uq11 HB0.out) hq); have hb := Bu.of_below (g := g) hbl; have hp := PS.below (g := g) (toks := toks) (en := en) (at_ := (n : Int)) (Uq10 HP0.out) hbl; clear he hq hbl; have HP1 := Lib.hid hp; have HB1 := Lib.hid (Bu.trans (g := g) (a := W.alloc nd0) (Uq11 HB0.out) hb); have BK1 := Lib.hid (hb.blk (k := W.heap.size) (o := nd0) (by with_reducible repeat (first | exact BK0.out | exact blk_new _ _ | refine blk_alloc ?_ _ | refine blk_drewN ?_ _)) (Nat.ne_of_gt HG.out)); clear hp hb; (try clear c0 c1 c2 c3 c4 c5 c6 c7 c8 c9 z0 z1 z2 z3 z4 z5 z6 z7 z8 z9 hsz); obtain ⟨⟨c0, c1, c2, c3, c4, c5, c6, c7, c8, c9⟩, z0, z1, z2, z3, z4, z5, z6, z7, z8, z9⟩ := z10 BK1.out; have hsz : W.heap.size < w1.heap.size := blk_lt BK1.out; have HZ1 := Lib.hid hsz))
  repeat (go_quiet (fail); try go_wp2_with (first | (go_at_call 52; (with_reducible refine (fail_calls g toks en n HN.out _ ?sp).mono ?_); (case sp => exact (Uq10 HP0.out)); rintro e w1 ⟨q, rfl, he, hq, hbl⟩; have HE := Lib.hid he; have HQ := Lib.hid (lo (g := g) (o := nd0) (W := W) (Uq11 HB0.out) hq); have hb := Bu.of_below (g := g) hbl; have hp := PS.below (g := g) (toks := toks) (en := en) (at_ := (n : Int)) (Uq10 HP0.out) hbl; clear he hq hbl; have HP1 := Lib.hid hp; have HB1 := Lib.hid (Bu.trans (g := g) (a := W.alloc nd0) (Uq11 HB0.out) hb); have BK1 := Lib.hid (hb.blk (k := W.heap.size) (o := nd0) (by with_reducible repeat (first | exact BK0.out | exact blk_new _ _ | refine blk_alloc ?_ _ | refine blk_drewN ?_ _)) (Nat.ne_of_gt HG.out)); clear hp hb; (try clear c0 c1 c2 c3 c4 c5 c6 c7 c8 c9 z0 z1 z2 z3 z4 z5 z6 z7 z8 z9 hsz); obtain ⟨⟨c0, c1, c2, c3, c4, c5, c6, c7, c8, c9⟩, z0, z1, z2, z3, z4, z5, z6, z7, z8, z9⟩ := z10 BK1.out; have hsz : W.heap.size < w1.heap.size := blk_lt BK1.out; have HZ1 := Lib.hid hsz)))
  refine bodyPost_ret (results_ct rfl _ _ W.heap.size 31 _ (0, 0) _ rfl (Uq4 BK1.out) hu rfl (by kernel_rfl)) rfl ?_
  refine ⟨?_, ?_, q, ?_, ?_, Nat.le_of_lt HQ.out⟩
  · exact (Uq5 HP1.out)
  · exact (Uq6 HB1.out)
  · rfl
  · exact (Uq7 HE.out)
theorem Bu.to_set {g : Nat} {W V : World} (h : Bu g W V) (j : Nat) (u : Value) : Bu g W (V.setCell ⟨g, j, none⟩ u) := h.trans (Bu.set g V j u)
theorem blk_set {g k j : Nat} {W : World} {o : Obj} (h : W.heap[k]? = some o) (hk : k ≠ g) (u : Value) : (W.setCell ⟨g, j, none⟩ u).heap[k]? = some o := (Below.heap_setCell W ⟨g, j, none⟩ u k hk).trans h
theorem put10_nd {W : World} {g : Nat} (h : W.heap[g]? = some nd0) (u0 u1 u2 u3 u4 u5 u6 u7 u8 u9 : Value) : (put10 W g u0 u1 u2 u3 u4 u5 u6 u7 u8 u9).heap[g]? = some (.cells #[u0, u1, u2, u3, u4, u5, u6, u7, u8, u9] 31 (0, 0)) := put10_blk h u0 u1 u2 u3 u4 u5 u6 u7 u8 u9
def constT (v : S24) : TN := ⟨1, v, ⟨⟨0, 0⟩, ⟨0, 0⟩⟩, ⟨#[]⟩, []⟩
theorem PS.tok' {g : Nat} {toks : List Tok} {W : World} {A : Option Addr} (h2 : Kd.F k137 W (fun k => k < g) A toks.length toks) (n : Nat) (tk : Tok) (ht : toks[n]? = some tk) :
    n < toks.length ∧ ∃ ad, A = some ad ∧ W.cell? (ad.add (n * 4)) = some (.int .i64 tk.f0) ∧ W.cell? ⟨(ad.add (n * 4)).block, (ad.add (n * 4)).off + 1, none⟩ = some (.int .i64 tk.f1) ∧ W.cell? ⟨(ad.add (n * 4)).block, (ad.add (n * 4)).off + 2, none⟩ = some (.string tk.f2) ∧ W.cell? ⟨(ad.add (n * 4)).block, (ad.add (n * 4)).off + 3, none⟩ = some (.int .i64 tk.f3) := by
  obtain ⟨hn, rfl⟩ := List.getElem?_eq_some_iff.1 ht
  exact ⟨hn, PS.tok h2 n hn⟩
set_option maxHeartbeats 8000000 in
set_option maxRecDepth 100000 in
theorem part_int (toks : List Tok) (en i : Int) (n : Nat) (tk : Tok) (ht : toks[n]? = some tk) (hlen : toks.length ≤ 1000000) (hk : tk.f0 = 1) : Does 132 toks en i n (.ok (constT ⟨2, tk.f1, ⟨#[]⟩⟩), n + 1) := by
  intro g W hp
  have hu := Tryz.underlying31
  have HG := Lib.hid hp.lt
  have HP0 := Lib.hid (hp.alloc nd0)
  have HB0 := Lib.hid (Bu.refl g (W.alloc nd0))
  have BK0 := Lib.hid (blk_new W nd0)
  have HPW := Lib.hid hp
  clear hp
  obtain ⟨At, ct, p0, p1, p2, y1, hpb, hpF⟩ := (HPW.out).cells
  obtain ⟨hn, ad, rfl, t0, t1, t2, t3⟩ := PS.tok' hpF n tk ht
  have hq : ((n : Int) == (toks.length : Int)) = false := by simp; omega
  have hq1 : ((0 : Int) ≤ (n : Int)) = True := eq_true (by omega)
  have hq2 : ((n : Int) < (toks.length : Int)) = True := eq_true (by omega)
  have w1 : IntKind.i64.wrap ((n : Int) + 1) = (n : Int) + 1 := by rw [i64_w, M.wrap64_id (by unfold I64; omega)]
  have hlt : (ad.add (n * 4)).block < W.heap.size := World.block_lt_of_cell? _ _ t0
  obtain ⟨⟨c0, c1, c2, c3, c4, c5, c6, c7, c8, c9⟩, z0, z1, z2, z3, z4, z5, z6, z7, z8, z9⟩ := z10 BK0.out
  have hg1 : (g = W.heap.size) = False := eq_false (Nat.ne_of_lt HG.out)
  have hg2 : (W.heap.size = g) = False := eq_false (Nat.ne_of_gt HG.out)
  have hg3 : g < W.heap.size := HG.out
  have HN := Lib.hid hn
  clear hpb hpF hlen ht hn
  have hk1 : (tk.f0 == 1) = true := by rw [hk]; rfl
  clear hk
  go_enter Tryz.func132, Tryz.ntmps132
  go_wp2
  repeat (go_quiet (fail); try go_wp2)
  go_region_held3 (fun w' => w'.cell? ⟨g, 0, none⟩ = some (.slice (some ad) toks.length ct) ∧ w'.cell? ⟨g, 1, none⟩ = some (.int .i64 (n : Int)) ∧ w'.cell? (ad.add (n * 4)) = some (.int .i64 tk.f0) ∧ w'.cell? ⟨(ad.add (n * 4)).block, (ad.add (n * 4)).off + 1, none⟩ = some (.int .i64 tk.f1) ∧ w'.cell? ⟨(ad.add (n * 4)).block, (ad.add (n * 4)).off + 2, none⟩ = some (.string tk.f2) ∧ w'.cell? ⟨(ad.add (n * 4)).block, (ad.add (n * 4)).off + 3, none⟩ = some (.int .i64 tk.f3)) (go_keep) (fail)
  go_wp2
  refine bodyPost_ret (results_ct rfl _ _ W.heap.size 31 _ (0, 0) _ rfl (by with_reducible repeat (first | exact put10_blk BK0.out _ _ _ _ _ _ _ _ _ _ | refine put10_nd ?_ _ _ _ _ _ _ _ _ _ _ | exact BK0.out | exact blk_new _ _ | refine blk_alloc ?_ _ | refine blk_drewN ?_ _ | refine blk_drew ?_ | refine blk_set ?_ (Nat.ne_of_gt HG.out) _)) hu rfl (by kernel_rfl)) rfl ?_
  refine ⟨?_, ?_, .slice none 0 0, ?_, Kd.V_nil _ _ _ _ _⟩
  · show PS g toks en ((n : Int) + 1) _
    exact (Uq12 HP0.out)
  · exact (Uq13 HB0.out)
  · rfl
set_option maxHeartbeats 8000000 in
set_option maxRecDepth 100000 in
theorem part_other (toks : List Tok) (en i : Int) (n : Nat) (tk : Tok) (ht : toks[n]? = some tk) (hlen : toks.length ≤ 1000000) (e1 : tk.f0 ≠ 1) (e2 : tk.f0 ≠ 2) (e3 : tk.f0 ≠ 3) (e4 : tk.f0 ≠ 4) : Does 132 toks en i n (.bad (placeV toks en n) 13, n) := by
  intro g W hp
  have hu := Tryz.underlying31
  have HG := Lib.hid hp.lt
  have HP0 := Lib.hid (hp.alloc nd0)
  have HB0 := Lib.hid (Bu.refl g (W.alloc nd0))
  have BK0 := Lib.hid (blk_new W nd0)
  have HPW := Lib.hid hp
  clear hp
  obtain ⟨At, ct, p0, p1, p2, y1, hpb, hpF⟩ := (HPW.out).cells
  obtain ⟨hn, ad, rfl, t0, t1, t2, t3⟩ := PS.tok' hpF n tk ht
  have hq : ((n : Int) == (toks.length : Int)) = false := by simp; omega
  have hq1 : ((0 : Int) ≤ (n : Int)) = True := eq_true (by omega)
  have hq2 : ((n : Int) < (toks.length : Int)) = True := eq_true (by omega)
  have w1 : IntKind.i64.wrap ((n : Int) + 1) = (n : Int) + 1 := by rw [i64_w, M.wrap64_id (by unfold I64; omega)]
  have hlt : (ad.add (n * 4)).block < W.heap.size := World.block_lt_of_cell? _ _ t0
  obtain ⟨⟨c0, c1, c2, c3, c4, c5, c6, c7, c8, c9⟩, z0, z1, z2, z3, z4, z5, z6, z7, z8, z9⟩ := z10 BK0.out
  have hg1 : (g = W.heap.size) = False := eq_false (Nat.ne_of_lt HG.out)
  have hg2 : (W.heap.size = g) = False := eq_false (Nat.ne_of_gt HG.out)
  have hg3 : g < W.heap.size := HG.out
  have HN := Lib.hid hn
  clear hpb hpF hlen ht hn
  have HNL := Lib.hid (Nat.le_of_lt HN.out)
  have hk1 : (tk.f0 == 1) = false := beq_eq_false_iff_ne.2 e1
  have hk2 : (tk.f0 == 2) = false := beq_eq_false_iff_ne.2 e2
  have hk3 : (tk.f0 == 3) = false := beq_eq_false_iff_ne.2 e3
  have hk4 : (tk.f0 == 4) = false := beq_eq_false_iff_ne.2 e4
  clear e1 e2 e3 e4
  go_enter Tryz.func132, Tryz.ntmps132
  go_wp2
  repeat (go_quiet (fail); try go_wp2)
  go_region_held3 (fun w' => w'.cell? ⟨g, 0, none⟩ = some (.slice (some ad) toks.length ct) ∧ w'.cell? ⟨g, 1, none⟩ = some (.int .i64 (n : Int)) ∧ w'.cell? (ad.add (n * 4)) = some (.int .i64 tk.f0) ∧ w'.cell? ⟨(ad.add (n * 4)).block, (ad.add (n * 4)).off + 1, none⟩ = some (.int .i64 tk.f1) ∧ w'.cell? ⟨(ad.add (n * 4)).block, (ad.add (n * 4)).off + 2, none⟩ = some (.string tk.f2) ∧ w'.cell? ⟨(ad.add (n * 4)).block, (ad.add (n * 4)).off + 3, none⟩ = some (.int .i64 tk.f3)) (go_keep) (fail)
  go_wp2_with (first | (go_at_call 52; (with_reducible refine (fail_calls g toks en n HNL.out _ ?sp).mono ?_); (case sp => exact (Uq12 HP0.out)); rintro e w1 ⟨q, rfl, he, hq, hbl⟩; have HE := Lib.hid he; have HQ := Lib.hid (lo (g := g) (o := nd0) (W := W) (Uq14 HB0.out) hq); have hb := Bu.of_below (g := g) hbl; have hp := PS.below (g := g) (toks := toks) (en := en) (at_ := (n : Int)) (Uq12 HP0.out) hbl; clear he hq hbl; have HP1 := Lib.hid hp; have HB1 := Lib.hid (Bu.trans (g := g) (a := W.alloc nd0) (Uq14 HB0.out) hb); have BK1 := Lib.hid (hb.blk (k := W.heap.size) (o := nd0) (Uq15 BK0.out) (Nat.ne_of_gt HG.out)); clear hp hb; (try clear c0 c1 c2 c3 c4 c5 c6 c7 c8 c9 z0 z1 z2 z3 z4 z5 z6 z7 z8 z9 hsz); obtain ⟨⟨c0, c1, c2, c3, c4, c5, c6, c7, c8, c9⟩, z0, z1, z2, z3, z4, z5, z6, z7, z8, z9⟩ := z10 BK1.out; have hsz : W.heap.size < w1.heap.size := blk_lt BK1.out; have HZ1 := Lib.hid hsz))
  refine bodyPost_ret (results_ct rfl _ _ W.heap.size 31 _ (0, 0) _ rfl (Uq16 BK1.out) hu rfl (by kernel_rfl)) rfl ?_
  refine ⟨?_, ?_, q, ?_, ?_, Nat.le_of_lt HQ.out⟩
  · exact (Uq12 HP1.out)
  · exact (Uq13 HB1.out)
  · rfl
  · exact (Uq7 HE.out)
set_option maxHeartbeats 8000000 in
set_option maxRecDepth 100000 in
theorem part_sign (toks : List Tok) (en i : Int) (n : Nat) (tk : Tok) (ht : toks[n]? = some tk) (hlen : toks.length ≤ 1000000) (hk : tk.f0 = 4) (s : ByteArray) (n1 : Nat) (hs : signV toks n [⟨#[40]⟩] = (s, false, n1)) (hn1 : n1 ≤ toks.length) : Does 132 toks en i n (.bad (placeV toks en n1) 13, n1) := by
  intro g W hp
  have hu := Tryz.underlying31
  have HG := Lib.hid hp.lt
  have HP0 := Lib.hid (hp.alloc nd0)
  have HB0 := Lib.hid (Bu.refl g (W.alloc nd0))
  have BK0 := Lib.hid (blk_new W nd0)
  have HPW := Lib.hid hp
  clear hp
  have HLEN := Lib.hid hlen
  obtain ⟨At, ct, p0, p1, p2, y1, hpb, hpF⟩ := (HPW.out).cells
  obtain ⟨hn, ad, rfl, t0, t1, t2, t3⟩ := PS.tok' hpF n tk ht
  have hq : ((n : Int) == (toks.length : Int)) = false := by simp; omega
  have hq1 : ((0 : Int) ≤ (n : Int)) = True := eq_true (by omega)
  have hq2 : ((n : Int) < (toks.length : Int)) = True := eq_true (by omega)
  have w1 : IntKind.i64.wrap ((n : Int) + 1) = (n : Int) + 1 := by rw [i64_w, M.wrap64_id (by unfold I64; omega)]
  have hlt : (ad.add (n * 4)).block < W.heap.size := World.block_lt_of_cell? _ _ t0
  obtain ⟨⟨c0, c1, c2, c3, c4, c5, c6, c7, c8, c9⟩, z0, z1, z2, z3, z4, z5, z6, z7, z8, z9⟩ := z10 BK0.out
  have hg1 : (g = W.heap.size) = False := eq_false (Nat.ne_of_lt HG.out)
  have hg2 : (W.heap.size = g) = False := eq_false (Nat.ne_of_gt HG.out)
  have hg3 : g < W.heap.size := HG.out
  have HN := Lib.hid hn
  clear hpb hpF hlen ht hn
  have HNL := Lib.hid (Nat.le_of_lt HN.out)
  have hk1 : (tk.f0 == 1) = false := by rw [hk]; rfl
  have hk2 : (tk.f0 == 2) = false := by rw [hk]; rfl
  have hk3 : (tk.f0 == 3) = false := by rw [hk]; rfl
  have hk4 : (tk.f0 == 4) = true := by rw [hk]; rfl
  clear hk
  have HS := Lib.hid hs
  have HM := Lib.hid hn1
  clear hs hn1
  go_enter Tryz.func132, Tryz.ntmps132
  go_wp2
  repeat (go_quiet (fail); try go_wp2)
  go_region_held3 (fun w' => w'.cell? ⟨g, 0, none⟩ = some (.slice (some ad) toks.length ct) ∧ w'.cell? ⟨g, 1, none⟩ = some (.int .i64 (n : Int)) ∧ w'.cell? (ad.add (n * 4)) = some (.int .i64 tk.f0) ∧ w'.cell? ⟨(ad.add (n * 4)).block, (ad.add (n * 4)).off + 1, none⟩ = some (.int .i64 tk.f1) ∧ w'.cell? ⟨(ad.add (n * 4)).block, (ad.add (n * 4)).off + 2, none⟩ = some (.string tk.f2) ∧ w'.cell? ⟨(ad.add (n * 4)).block, (ad.add (n * 4)).off + 3, none⟩ = some (.int .i64 tk.f3)) (go_keep) (fail)
  go_wp2_with (first | (go_at_call 75; (with_reducible refine (sign_of g toks en _ HNL.out _ _ _ _ _ _ _ HS.out ?s1 HLEN.out _ ?sp ?s2 ?s3 ?s4).mono ?_); (case sp => exact (Uq12 HP0.out)); (case s1 => decide); (case s2 => exact strC_new (by simp) rfl (by decide)); (case s3 => decide); (case s4 => rfl); rintro e w1 ⟨rfl, hp, hb⟩; have HP1 := Lib.hid hp; have HB1 := Lib.hid (Bu.trans (g := g) (a := W.alloc nd0) (Uq14 HB0.out) hb); have BK1 := Lib.hid (hb.blk (k := W.heap.size) (o := nd0) (Uq15 BK0.out) (Nat.ne_of_gt HG.out)); clear hp hb; (try clear c0 c1 c2 c3 c4 c5 c6 c7 c8 c9 z0 z1 z2 z3 z4 z5 z6 z7 z8 z9 hsz); obtain ⟨⟨c0, c1, c2, c3, c4, c5, c6, c7, c8, c9⟩, z0, z1, z2, z3, z4, z5, z6, z7, z8, z9⟩ := z10 BK1.out; have hsz : W.heap.size < w1.heap.size := blk_lt BK1.out; have HZ1 := Lib.hid hsz) | (go_at_call 52; (with_reducible refine (fail_calls g toks en n1 HM.out _ ?sp).mono ?_); (case sp => exact (Uq12 HP1.out)); rintro e w2 ⟨q, rfl, he, hq, hbl⟩; have HE := Lib.hid he; have HQ := Lib.hid (lo (g := g) (o := nd0) (W := W) (Uq14 HB1.out) hq); have hb := Bu.of_below (g := g) hbl; have hp := PS.below (g := g) (toks := toks) (en := en) (at_ := (n1 : Int)) (Uq12 HP1.out) hbl; clear he hq hbl; have HP2 := Lib.hid hp; have HB2 := Lib.hid (Bu.trans (g := g) (a := W.alloc nd0) (Uq14 HB1.out) hb); have BK2 := Lib.hid (hb.blk (k := W.heap.size) (o := nd0) (Uq15 BK1.out) (Nat.ne_of_gt HG.out)); clear hp hb; (try clear c0 c1 c2 c3 c4 c5 c6 c7 c8 c9 z0 z1 z2 z3 z4 z5 z6 z7 z8 z9 hsz); obtain ⟨⟨c0, c1, c2, c3, c4, c5, c6, c7, c8, c9⟩, z0, z1, z2, z3, z4, z5, z6, z7, z8, z9⟩ := z10 BK2.out; have hsz : W.heap.size < w2.heap.size := blk_lt BK2.out; have HZ2 := Lib.hid hsz))
  refine bodyPost_ret (results_ct rfl _ _ W.heap.size 31 _ (0, 0) _ rfl (Uq17 BK2.out) hu rfl (by kernel_rfl)) rfl ?_
  refine ⟨?_, ?_, q, ?_, ?_, Nat.le_of_lt HQ.out⟩
  · exact (Uq12 HP2.out)
  · exact (Uq13 HB2.out)
  · rfl
  · exact (Uq7 HE.out)
set_option maxHeartbeats 8000000 in
set_option maxRecDepth 100000 in
theorem part_wbad (toks : List Tok) (en i : Int) (n : Nat) (tk : Tok) (ht : toks[n]? = some tk) (hlen : toks.length ≤ 1000000) (hk : tk.f0 = 4) (s : ByteArray) (n1 : Nat) (hs : signV toks n [⟨#[40]⟩] = (s, true, n1)) (n2 : Nat) (p c : Int) (hf : Does 135 toks en i n1 (.bad p c, n2)) : Does 132 toks en i n (.bad p c, n2) := by
  intro g W hp
  have hu := Tryz.underlying31
  have HG := Lib.hid hp.lt
  have HP0 := Lib.hid (hp.alloc nd0)
  have HB0 := Lib.hid (Bu.refl g (W.alloc nd0))
  have BK0 := Lib.hid (blk_new W nd0)
  have HPW := Lib.hid hp
  clear hp
  have HLEN := Lib.hid hlen
  obtain ⟨At, ct, p0, p1, p2, y1, hpb, hpF⟩ := (HPW.out).cells
  obtain ⟨hn, ad, rfl, t0, t1, t2, t3⟩ := PS.tok' hpF n tk ht
  have hq : ((n : Int) == (toks.length : Int)) = false := by simp; omega
  have hq1 : ((0 : Int) ≤ (n : Int)) = True := eq_true (by omega)
  have hq2 : ((n : Int) < (toks.length : Int)) = True := eq_true (by omega)
  have w1 : IntKind.i64.wrap ((n : Int) + 1) = (n : Int) + 1 := by rw [i64_w, M.wrap64_id (by unfold I64; omega)]
  have hlt : (ad.add (n * 4)).block < W.heap.size := World.block_lt_of_cell? _ _ t0
  obtain ⟨⟨c0, c1, c2, c3, c4, c5, c6, c7, c8, c9⟩, z0, z1, z2, z3, z4, z5, z6, z7, z8, z9⟩ := z10 BK0.out
  have hg1 : (g = W.heap.size) = False := eq_false (Nat.ne_of_lt HG.out)
  have hg2 : (W.heap.size = g) = False := eq_false (Nat.ne_of_gt HG.out)
  have hg3 : g < W.heap.size := HG.out
  have HN := Lib.hid hn
  clear hpb hpF hlen ht hn
  have HNL := Lib.hid (Nat.le_of_lt HN.out)
  have hk1 : (tk.f0 == 1) = false := by rw [hk]; rfl
  have hk2 : (tk.f0 == 2) = false := by rw [hk]; rfl
  have hk3 : (tk.f0 == 3) = false := by rw [hk]; rfl
  have hk4 : (tk.f0 == 4) = true := by rw [hk]; rfl
  clear hk
  have HS := Lib.hid hs
  have HF := Lib.hid hf
  clear hs hf
  go_enter Tryz.func132, Tryz.ntmps132
  go_wp2
  repeat (go_quiet (fail); try go_wp2)
  go_region_held3 (fun w' => w'.cell? ⟨g, 0, none⟩ = some (.slice (some ad) toks.length ct) ∧ w'.cell? ⟨g, 1, none⟩ = some (.int .i64 (n : Int)) ∧ w'.cell? (ad.add (n * 4)) = some (.int .i64 tk.f0) ∧ w'.cell? ⟨(ad.add (n * 4)).block, (ad.add (n * 4)).off + 1, none⟩ = some (.int .i64 tk.f1) ∧ w'.cell? ⟨(ad.add (n * 4)).block, (ad.add (n * 4)).off + 2, none⟩ = some (.string tk.f2) ∧ w'.cell? ⟨(ad.add (n * 4)).block, (ad.add (n * 4)).off + 3, none⟩ = some (.int .i64 tk.f3)) (go_keep) (fail)
  go_wp2_with (first | (go_at_call 75; (with_reducible refine (sign_of g toks en _ HNL.out _ _ _ _ _ _ _ HS.out ?s1 HLEN.out _ ?sp ?s2 ?s3 ?s4).mono ?_); (case sp => exact (Uq12 HP0.out)); (case s1 => decide); (case s2 => exact strC_new (by simp) rfl (by decide)); (case s3 => decide); (case s4 => rfl); rintro e w1 ⟨rfl, hp, hb⟩; have HP1 := Lib.hid hp; have HB1 := Lib.hid (Bu.trans (g := g) (a := W.alloc nd0) (Uq14 HB0.out) hb); have BK1 := Lib.hid (hb.blk (k := W.heap.size) (o := nd0) (Uq15 BK0.out) (Nat.ne_of_gt HG.out)); clear hp hb; (try clear c0 c1 c2 c3 c4 c5 c6 c7 c8 c9 z0 z1 z2 z3 z4 z5 z6 z7 z8 z9 hsz); obtain ⟨⟨c0, c1, c2, c3, c4, c5, c6, c7, c8, c9⟩, z0, z1, z2, z3, z4, z5, z6, z7, z8, z9⟩ := z10 BK1.out; have hsz : W.heap.size < w1.heap.size := blk_lt BK1.out; have HZ1 := Lib.hid hsz) | (go_at_call 135; (with_reducible refine (HF.out.bad g _ ?sp).mono ?_); (case sp => exact (Uq12 HP1.out)); rintro e w2 ⟨hp, hb, q, rfl, he, hq⟩; have HE := Lib.hid he; have HQ := Lib.hid (lo (g := g) (o := nd0) (W := W) (Uq14 HB1.out) hq); clear he hq; have HP2 := Lib.hid hp; have HB2 := Lib.hid (Bu.trans (g := g) (a := W.alloc nd0) (Uq14 HB1.out) hb); have BK2 := Lib.hid (hb.blk (k := W.heap.size) (o := nd0) (Uq15 BK1.out) (Nat.ne_of_gt HG.out)); clear hp hb; (try clear c0 c1 c2 c3 c4 c5 c6 c7 c8 c9 z0 z1 z2 z3 z4 z5 z6 z7 z8 z9 hsz); obtain ⟨⟨c0, c1, c2, c3, c4, c5, c6, c7, c8, c9⟩, z0, z1, z2, z3, z4, z5, z6, z7, z8, z9⟩ := z10 BK2.out; have hsz : W.heap.size < w2.heap.size := blk_lt BK2.out; have HZ2 := Lib.hid hsz))
  refine bodyPost_ret (results_ct rfl _ _ W.heap.size 31 _ (0, 0) _ rfl (Uq17 BK2.out) hu rfl (by kernel_rfl)) rfl ?_
  refine ⟨?_, ?_, q, ?_, ?_, Nat.le_of_lt HQ.out⟩
  · exact (Uq12 HP2.out)
  · exact (Uq13 HB2.out)
  · rfl
  · exact (Uq7 HE.out)
set_option maxHeartbeats 8000000 in
set_option maxRecDepth 100000 in
theorem part_wok (toks : List Tok) (en i : Int) (n : Nat) (tk : Tok) (ht : toks[n]? = some tk) (hlen : toks.length ≤ 1000000) (hk : tk.f0 = 4) (s : ByteArray) (n1 : Nat) (hs : signV toks n [⟨#[40]⟩] = (s, true, n1)) (n2 : Nat) (a : TN) (hf : Does 135 toks en i n1 (.ok a, n2)) : Does 132 toks en i n (.ok a, n2) := by
  intro g W hp
  have hu := Tryz.underlying31
  have HG := Lib.hid hp.lt
  have HP0 := Lib.hid (hp.alloc nd0)
  have HB0 := Lib.hid (Bu.refl g (W.alloc nd0))
  have BK0 := Lib.hid (blk_new W nd0)
  have HPW := Lib.hid hp
  clear hp
  have HLEN := Lib.hid hlen
  obtain ⟨At, ct, p0, p1, p2, y1, hpb, hpF⟩ := (HPW.out).cells
  obtain ⟨hn, ad, rfl, t0, t1, t2, t3⟩ := PS.tok' hpF n tk ht
  have hq : ((n : Int) == (toks.length : Int)) = false := by simp; omega
  have hq1 : ((0 : Int) ≤ (n : Int)) = True := eq_true (by omega)
  have hq2 : ((n : Int) < (toks.length : Int)) = True := eq_true (by omega)
  have w1 : IntKind.i64.wrap ((n : Int) + 1) = (n : Int) + 1 := by rw [i64_w, M.wrap64_id (by unfold I64; omega)]
  have hlt : (ad.add (n * 4)).block < W.heap.size := World.block_lt_of_cell? _ _ t0
  obtain ⟨⟨c0, c1, c2, c3, c4, c5, c6, c7, c8, c9⟩, z0, z1, z2, z3, z4, z5, z6, z7, z8, z9⟩ := z10 BK0.out
  have hg1 : (g = W.heap.size) = False := eq_false (Nat.ne_of_lt HG.out)
  have hg2 : (W.heap.size = g) = False := eq_false (Nat.ne_of_gt HG.out)
  have hg3 : g < W.heap.size := HG.out
  have HN := Lib.hid hn
  clear hpb hpF hlen ht hn
  have HNL := Lib.hid (Nat.le_of_lt HN.out)
  have hk1 : (tk.f0 == 1) = false := by rw [hk]; rfl
  have hk2 : (tk.f0 == 2) = false := by rw [hk]; rfl
  have hk3 : (tk.f0 == 3) = false := by rw [hk]; rfl
  have hk4 : (tk.f0 == 4) = true := by rw [hk]; rfl
  clear hk
  have HS := Lib.hid hs
  have HF := Lib.hid hf
  clear hs hf
  go_enter Tryz.func132, Tryz.ntmps132
  go_wp2
  repeat (go_quiet (fail); try go_wp2)
  go_region_held3 (fun w' => w'.cell? ⟨g, 0, none⟩ = some (.slice (some ad) toks.length ct) ∧ w'.cell? ⟨g, 1, none⟩ = some (.int .i64 (n : Int)) ∧ w'.cell? (ad.add (n * 4)) = some (.int .i64 tk.f0) ∧ w'.cell? ⟨(ad.add (n * 4)).block, (ad.add (n * 4)).off + 1, none⟩ = some (.int .i64 tk.f1) ∧ w'.cell? ⟨(ad.add (n * 4)).block, (ad.add (n * 4)).off + 2, none⟩ = some (.string tk.f2) ∧ w'.cell? ⟨(ad.add (n * 4)).block, (ad.add (n * 4)).off + 3, none⟩ = some (.int .i64 tk.f3)) (go_keep) (fail)
  go_wp2_with (first | (go_at_call 75; (with_reducible refine (sign_of g toks en _ HNL.out _ _ _ _ _ _ _ HS.out ?s1 HLEN.out _ ?sp ?s2 ?s3 ?s4).mono ?_); (case sp => exact (Uq12 HP0.out)); (case s1 => decide); (case s2 => exact strC_new (by simp) rfl (by decide)); (case s3 => decide); (case s4 => rfl); rintro e w1 ⟨rfl, hp, hb⟩; have HP1 := Lib.hid hp; have HB1 := Lib.hid (Bu.trans (g := g) (a := W.alloc nd0) (Uq14 HB0.out) hb); have BK1 := Lib.hid (hb.blk (k := W.heap.size) (o := nd0) (Uq15 BK0.out) (Nat.ne_of_gt HG.out)); clear hp hb; (try clear c0 c1 c2 c3 c4 c5 c6 c7 c8 c9 z0 z1 z2 z3 z4 z5 z6 z7 z8 z9 hsz); obtain ⟨⟨c0, c1, c2, c3, c4, c5, c6, c7, c8, c9⟩, z0, z1, z2, z3, z4, z5, z6, z7, z8, z9⟩ := z10 BK1.out; have hsz : W.heap.size < w1.heap.size := blk_lt BK1.out; have HZ1 := Lib.hid hsz) | (go_at_call 135; (fail_if_success have := HP2); (with_reducible refine (HF.out.ok g _ ?sp).mono ?_); (case sp => exact (Uq12 HP1.out)); rintro e w2 ⟨hp, hb, v2, rfl, hv⟩; obtain ⟨AA2, kk2, rfl⟩ := Kd.V_slice hv; have HV2 := Lib.hid (Kd.V_mono hv (fun k hk => lo (g := g) (o := nd0) (W := W) (Uq14 HB1.out) hk)); clear hv; have HP2 := Lib.hid hp; have HB2 := Lib.hid (Bu.trans (g := g) (a := W.alloc nd0) (Uq14 HB1.out) hb); have BK2 := Lib.hid (hb.blk (k := W.heap.size) (o := nd0) (Uq15 BK1.out) (Nat.ne_of_gt HG.out)); clear hp hb; (try clear c0 c1 c2 c3 c4 c5 c6 c7 c8 c9 z0 z1 z2 z3 z4 z5 z6 z7 z8 z9 hsz); obtain ⟨⟨c0, c1, c2, c3, c4, c5, c6, c7, c8, c9⟩, z0, z1, z2, z3, z4, z5, z6, z7, z8, z9⟩ := z10 BK2.out; have hsz : W.heap.size < w2.heap.size := blk_lt BK2.out; have HZ2 := Lib.hid hsz))
  refine bodyPost_ret (results_ct rfl _ _ W.heap.size 31 _ (0, 0) _ rfl (Uq17 BK2.out) hu rfl (by kernel_rfl)) rfl ?_
  refine ⟨?_, ?_, (.slice AA2 a.f4.length kk2), ?_, Kd.V_mono ?_ (fun k hk => Nat.le_of_lt hk)⟩
  · exact (Uq12 HP2.out)
  · exact (Uq13 HB2.out)
  · rfl
  · exact (Uq9 HV2.out)
def DoesS (m : Nat) (toks : List Tok) (en : Int) (i : Int) (s : ByteArray) (n : Nat) (r : PR × Nat) : Prop :=
  ∀ (g : Nat) (W : World), PS g toks en (n : Int) W → Calls Tryz.prog m #[ptr g, .int .i64 i, .string s] W fun e W' => PS g toks en (r.2 : Int) W' ∧ Bu g W W' ∧ Ret W.heap.size r.1 W' e
theorem DoesS.ok {m : Nat} {toks : List Tok} {en i : Int} {s : ByteArray} {n n' : Nat} {t : TN} (h : DoesS m toks en i s n (.ok t, n')) (g : Nat) (W : World) (hp : PS g toks en (n : Int) W) :
    Calls Tryz.prog m #[ptr g, .int .i64 i, .string s] W fun e W' => PS g toks en (n' : Int) W' ∧ Bu g W W' ∧ ∃ v9, e = .returned (.tuple #[ndV t v9, .nilIface]) ∧ vN (fun k => W.heap.size ≤ k) W' v9 t.f4 := h g W hp
theorem DoesS.bad {m : Nat} {toks : List Tok} {en i : Int} {s : ByteArray} {n n' : Nat} {p c : Int} (h : DoesS m toks en i s n (.bad p c, n')) (g : Nat) (W : World) (hp : PS g toks en (n : Int) W) :
    Calls Tryz.prog m #[ptr g, .int .i64 i, .string s] W fun e W' => PS g toks en (n' : Int) W' ∧ Bu g W W' ∧ ∃ q, e = .returned (.tuple #[ndV z31 (.slice none 0 0), .iface 78 (ptr q)]) ∧ W'.heap[q]? = some (.cells #[.int .i64 p, .int .i64 c] 82 (0, 0)) ∧ W.heap.size ≤ q := h g W hp
set_option maxHeartbeats 8000000 in
set_option maxRecDepth 100000 in
theorem part_nbad (toks : List Tok) (en i : Int) (n : Nat) (tk : Tok) (ht : toks[n]? = some tk) (hlen : toks.length ≤ 1000000) (hk : tk.f0 = 3) (n2 : Nat) (p c : Int) (hf : DoesS 134 toks en i tk.f2 n (.bad p c, n2)) : Does 132 toks en i n (.bad p c, n2) := by
  intro g W hp
  have hu := Tryz.underlying31
  have HG := Lib.hid hp.lt
  have HP0 := Lib.hid (hp.alloc nd0)
  have HB0 := Lib.hid (Bu.refl g (W.alloc nd0))
  have BK0 := Lib.hid (blk_new W nd0)
  have HPW := Lib.hid hp
  clear hp
  obtain ⟨At, ct, p0, p1, p2, y1, hpb, hpF⟩ := (HPW.out).cells
  obtain ⟨hn, ad, rfl, t0, t1, t2, t3⟩ := PS.tok' hpF n tk ht
  have hq : ((n : Int) == (toks.length : Int)) = false := by simp; omega
  have hq1 : ((0 : Int) ≤ (n : Int)) = True := eq_true (by omega)
  have hq2 : ((n : Int) < (toks.length : Int)) = True := eq_true (by omega)
  have w1 : IntKind.i64.wrap ((n : Int) + 1) = (n : Int) + 1 := by rw [i64_w, M.wrap64_id (by unfold I64; omega)]
  have hlt : (ad.add (n * 4)).block < W.heap.size := World.block_lt_of_cell? _ _ t0
  obtain ⟨⟨c0, c1, c2, c3, c4, c5, c6, c7, c8, c9⟩, z0, z1, z2, z3, z4, z5, z6, z7, z8, z9⟩ := z10 BK0.out
  have hg1 : (g = W.heap.size) = False := eq_false (Nat.ne_of_lt HG.out)
  have hg2 : (W.heap.size = g) = False := eq_false (Nat.ne_of_gt HG.out)
  have hg3 : g < W.heap.size := HG.out
  have HN := Lib.hid hn
  clear hpb hpF hlen ht hn
  have HNL := Lib.hid (Nat.le_of_lt HN.out)
  have hk1 : (tk.f0 == 1) = false := by rw [hk]; rfl
  have hk2 : (tk.f0 == 2) = false := by rw [hk]; rfl
  have hk3 : (tk.f0 == 3) = true := by rw [hk]; rfl
  clear hk
  have HF := Lib.hid hf
  clear hf
  go_enter Tryz.func132, Tryz.ntmps132
  go_wp2
  repeat (go_quiet (fail); try go_wp2)
  go_region_held3 (fun w' => w'.cell? ⟨g, 0, none⟩ = some (.slice (some ad) toks.length ct) ∧ w'.cell? ⟨g, 1, none⟩ = some (.int .i64 (n : Int)) ∧ w'.cell? (ad.add (n * 4)) = some (.int .i64 tk.f0) ∧ w'.cell? ⟨(ad.add (n * 4)).block, (ad.add (n * 4)).off + 1, none⟩ = some (.int .i64 tk.f1) ∧ w'.cell? ⟨(ad.add (n * 4)).block, (ad.add (n * 4)).off + 2, none⟩ = some (.string tk.f2) ∧ w'.cell? ⟨(ad.add (n * 4)).block, (ad.add (n * 4)).off + 3, none⟩ = some (.int .i64 tk.f3)) (go_keep) (fail)
  go_wp2_with (first | (go_at_call 134; (with_reducible refine (HF.out.bad g _ ?sp).mono ?_); (case sp => exact (Uq12 HP0.out)); rintro e w1 ⟨hp, hb, q, rfl, he, hq⟩; have HE := Lib.hid he; have HQ := Lib.hid (lo (g := g) (o := nd0) (W := W) (Uq14 HB0.out) hq); clear he hq; have HP1 := Lib.hid hp; have HB1 := Lib.hid (Bu.trans (g := g) (a := W.alloc nd0) (Uq14 HB0.out) hb); have BK1 := Lib.hid (hb.blk (k := W.heap.size) (o := nd0) (Uq15 BK0.out) (Nat.ne_of_gt HG.out)); clear hp hb; (try clear c0 c1 c2 c3 c4 c5 c6 c7 c8 c9 z0 z1 z2 z3 z4 z5 z6 z7 z8 z9 hsz); obtain ⟨⟨c0, c1, c2, c3, c4, c5, c6, c7, c8, c9⟩, z0, z1, z2, z3, z4, z5, z6, z7, z8, z9⟩ := z10 BK1.out; have hsz : W.heap.size < w1.heap.size := blk_lt BK1.out; have HZ1 := Lib.hid hsz))
  refine bodyPost_ret (results_ct rfl _ _ W.heap.size 31 _ (0, 0) _ rfl (Uq16 BK1.out) hu rfl (by kernel_rfl)) rfl ?_
  refine ⟨?_, ?_, q, ?_, ?_, Nat.le_of_lt HQ.out⟩
  · exact (Uq12 HP1.out)
  · exact (Uq13 HB1.out)
  · rfl
  · exact (Uq7 HE.out)
set_option maxHeartbeats 8000000 in
set_option maxRecDepth 100000 in
theorem part_nok (toks : List Tok) (en i : Int) (n : Nat) (tk : Tok) (ht : toks[n]? = some tk) (hlen : toks.length ≤ 1000000) (hk : tk.f0 = 3) (n2 : Nat) (a : TN) (hf : DoesS 134 toks en i tk.f2 n (.ok a, n2)) : Does 132 toks en i n (.ok a, n2) := by
  intro g W hp
  have hu := Tryz.underlying31
  have HG := Lib.hid hp.lt
  have HP0 := Lib.hid (hp.alloc nd0)
  have HB0 := Lib.hid (Bu.refl g (W.alloc nd0))
  have BK0 := Lib.hid (blk_new W nd0)
  have HPW := Lib.hid hp
  clear hp
  obtain ⟨At, ct, p0, p1, p2, y1, hpb, hpF⟩ := (HPW.out).cells
  obtain ⟨hn, ad, rfl, t0, t1, t2, t3⟩ := PS.tok' hpF n tk ht
  have hq : ((n : Int) == (toks.length : Int)) = false := by simp; omega
  have hq1 : ((0 : Int) ≤ (n : Int)) = True := eq_true (by omega)
  have hq2 : ((n : Int) < (toks.length : Int)) = True := eq_true (by omega)
  have w1 : IntKind.i64.wrap ((n : Int) + 1) = (n : Int) + 1 := by rw [i64_w, M.wrap64_id (by unfold I64; omega)]
  have hlt : (ad.add (n * 4)).block < W.heap.size := World.block_lt_of_cell? _ _ t0
  obtain ⟨⟨c0, c1, c2, c3, c4, c5, c6, c7, c8, c9⟩, z0, z1, z2, z3, z4, z5, z6, z7, z8, z9⟩ := z10 BK0.out
  have hg1 : (g = W.heap.size) = False := eq_false (Nat.ne_of_lt HG.out)
  have hg2 : (W.heap.size = g) = False := eq_false (Nat.ne_of_gt HG.out)
  have hg3 : g < W.heap.size := HG.out
  have HN := Lib.hid hn
  clear hpb hpF hlen ht hn
  have HNL := Lib.hid (Nat.le_of_lt HN.out)
  have hk1 : (tk.f0 == 1) = false := by rw [hk]; rfl
  have hk2 : (tk.f0 == 2) = false := by rw [hk]; rfl
  have hk3 : (tk.f0 == 3) = true := by rw [hk]; rfl
  clear hk
  have HF := Lib.hid hf
  clear hf
  go_enter Tryz.func132, Tryz.ntmps132
  go_wp2
  repeat (go_quiet (fail); try go_wp2)
  go_region_held3 (fun w' => w'.cell? ⟨g, 0, none⟩ = some (.slice (some ad) toks.length ct) ∧ w'.cell? ⟨g, 1, none⟩ = some (.int .i64 (n : Int)) ∧ w'.cell? (ad.add (n * 4)) = some (.int .i64 tk.f0) ∧ w'.cell? ⟨(ad.add (n * 4)).block, (ad.add (n * 4)).off + 1, none⟩ = some (.int .i64 tk.f1) ∧ w'.cell? ⟨(ad.add (n * 4)).block, (ad.add (n * 4)).off + 2, none⟩ = some (.string tk.f2) ∧ w'.cell? ⟨(ad.add (n * 4)).block, (ad.add (n * 4)).off + 3, none⟩ = some (.int .i64 tk.f3)) (go_keep) (fail)
  go_wp2_with (first | (go_at_call 134; (fail_if_success have := HP1); (with_reducible refine (HF.out.ok g _ ?sp).mono ?_); (case sp => exact (Uq12 HP0.out)); rintro e w1 ⟨hp, hb, v1, rfl, hv⟩; obtain ⟨AA1, kk1, rfl⟩ := Kd.V_slice hv; have HV1 := Lib.hid (Kd.V_mono hv (fun k hk => lo (g := g) (o := nd0) (W := W) (Uq14 HB0.out) hk)); clear hv; have HP1 := Lib.hid hp; have HB1 := Lib.hid (Bu.trans (g := g) (a := W.alloc nd0) (Uq14 HB0.out) hb); have BK1 := Lib.hid (hb.blk (k := W.heap.size) (o := nd0) (Uq15 BK0.out) (Nat.ne_of_gt HG.out)); clear hp hb; (try clear c0 c1 c2 c3 c4 c5 c6 c7 c8 c9 z0 z1 z2 z3 z4 z5 z6 z7 z8 z9 hsz); obtain ⟨⟨c0, c1, c2, c3, c4, c5, c6, c7, c8, c9⟩, z0, z1, z2, z3, z4, z5, z6, z7, z8, z9⟩ := z10 BK1.out; have hsz : W.heap.size < w1.heap.size := blk_lt BK1.out; have HZ1 := Lib.hid hsz))
  refine bodyPost_ret (results_ct rfl _ _ W.heap.size 31 _ (0, 0) _ rfl (Uq16 BK1.out) hu rfl (by kernel_rfl)) rfl ?_
  refine ⟨?_, ?_, (.slice AA1 a.f4.length kk1), ?_, Kd.V_mono ?_ (fun k hk => Nat.le_of_lt hk)⟩
  · exact (Uq12 HP1.out)
  · exact (Uq13 HB1.out)
  · rfl
  · exact (Uq9 HV1.out)
set_option maxHeartbeats 8000000 in
set_option maxRecDepth 100000 in
theorem part_long (toks : List Tok) (en i : Int) (n : Nat) (tk : Tok) (ht : toks[n]? = some tk) (hlen : toks.length ≤ 1000000) (hk : tk.f0 = 2) (ho : value_Of.f tk.f2 = some (4, 7, ⟨#[]⟩)) : Does 132 toks en i n (.bad (placeV toks en n) 13, n) := by
  intro g W hp
  have hu := Tryz.underlying31
  have HG := Lib.hid hp.lt
  have HP0 := Lib.hid (hp.alloc nd0)
  have HB0 := Lib.hid (Bu.refl g (W.alloc nd0))
  have BK0 := Lib.hid (blk_new W nd0)
  have HPW := Lib.hid hp
  clear hp
  obtain ⟨At, ct, p0, p1, p2, y1, hpb, hpF⟩ := (HPW.out).cells
  obtain ⟨hn, ad, rfl, t0, t1, t2, t3⟩ := PS.tok' hpF n tk ht
  have hq : ((n : Int) == (toks.length : Int)) = false := by simp; omega
  have hq1 : ((0 : Int) ≤ (n : Int)) = True := eq_true (by omega)
  have hq2 : ((n : Int) < (toks.length : Int)) = True := eq_true (by omega)
  have w1 : IntKind.i64.wrap ((n : Int) + 1) = (n : Int) + 1 := by rw [i64_w, M.wrap64_id (by unfold I64; omega)]
  have hlt : (ad.add (n * 4)).block < W.heap.size := World.block_lt_of_cell? _ _ t0
  obtain ⟨⟨c0, c1, c2, c3, c4, c5, c6, c7, c8, c9⟩, z0, z1, z2, z3, z4, z5, z6, z7, z8, z9⟩ := z10 BK0.out
  have hg1 : (g = W.heap.size) = False := eq_false (Nat.ne_of_lt HG.out)
  have hg2 : (W.heap.size = g) = False := eq_false (Nat.ne_of_gt HG.out)
  have hg3 : g < W.heap.size := HG.out
  have HN := Lib.hid hn
  clear hpb hpF hlen ht hn
  have HNL := Lib.hid (Nat.le_of_lt HN.out)
  have hk1 : (tk.f0 == 1) = false := by rw [hk]; rfl
  have hk2 : (tk.f0 == 2) = true := by rw [hk]; rfl
  clear hk
  have HO := Lib.hid ho
  clear ho
  go_enter Tryz.func132, Tryz.ntmps132
  go_wp2
  repeat (go_quiet (fail); try go_wp2)
  go_region_held3 (fun w' => w'.cell? ⟨g, 0, none⟩ = some (.slice (some ad) toks.length ct) ∧ w'.cell? ⟨g, 1, none⟩ = some (.int .i64 (n : Int)) ∧ w'.cell? (ad.add (n * 4)) = some (.int .i64 tk.f0) ∧ w'.cell? ⟨(ad.add (n * 4)).block, (ad.add (n * 4)).off + 1, none⟩ = some (.int .i64 tk.f1) ∧ w'.cell? ⟨(ad.add (n * 4)).block, (ad.add (n * 4)).off + 2, none⟩ = some (.string tk.f2) ∧ w'.cell? ⟨(ad.add (n * 4)).block, (ad.add (n * 4)).off + 3, none⟩ = some (.int .i64 tk.f3)) (go_keep) (fail)
  go_wp2_with (first | (go_at_call 40; (with_reducible refine (value_Of.calls tk.f2 _ _ _ _ HO.out).mono ?_); rintro e w1 ⟨rfl, hbl⟩; have hb := Bu.of_below (g := g) hbl; have hp := PS.below (g := g) (toks := toks) (en := en) (at_ := (n : Int)) (Uq12 HP0.out) hbl; clear hbl; have HP1 := Lib.hid hp; have HB1 := Lib.hid (Bu.trans (g := g) (a := W.alloc nd0) (Uq14 HB0.out) hb); have BK1 := Lib.hid (hb.blk (k := W.heap.size) (o := nd0) (Uq15 BK0.out) (Nat.ne_of_gt HG.out)); clear hp hb; (try clear c0 c1 c2 c3 c4 c5 c6 c7 c8 c9 z0 z1 z2 z3 z4 z5 z6 z7 z8 z9 hsz); obtain ⟨⟨c0, c1, c2, c3, c4, c5, c6, c7, c8, c9⟩, z0, z1, z2, z3, z4, z5, z6, z7, z8, z9⟩ := z10 BK1.out; have hsz : W.heap.size < w1.heap.size := blk_lt BK1.out; have HZ1 := Lib.hid hsz; obtain ⟨Au, cu, g0, g1, g2, gz, -, -⟩ := (HP1.out).cells; have hgl := HP1.out.lt) | (go_at_call 52; (with_reducible refine (fail_calls g toks en n HNL.out _ ?sp).mono ?_); (case sp => exact (Uq12 HP1.out)); rintro e w2 ⟨q, rfl, he, hq, hbl⟩; have HE := Lib.hid he; have HQ := Lib.hid (lo (g := g) (o := nd0) (W := W) (Uq14 HB1.out) hq); have hb := Bu.of_below (g := g) hbl; have hp := PS.below (g := g) (toks := toks) (en := en) (at_ := (n : Int)) (Uq12 HP1.out) hbl; clear he hq hbl; have HP2 := Lib.hid hp; have HB2 := Lib.hid (Bu.trans (g := g) (a := W.alloc nd0) (Uq14 HB1.out) hb); have BK2 := Lib.hid (hb.blk (k := W.heap.size) (o := nd0) (Uq15 BK1.out) (Nat.ne_of_gt HG.out)); clear hp hb; (try clear c0 c1 c2 c3 c4 c5 c6 c7 c8 c9 z0 z1 z2 z3 z4 z5 z6 z7 z8 z9 hsz); obtain ⟨⟨c0, c1, c2, c3, c4, c5, c6, c7, c8, c9⟩, z0, z1, z2, z3, z4, z5, z6, z7, z8, z9⟩ := z10 BK2.out; have hsz : W.heap.size < w2.heap.size := blk_lt BK2.out; have HZ2 := Lib.hid hsz))
  refine bodyPost_ret (results_ct rfl _ _ W.heap.size 31 _ (0, 0) _ rfl (Uq17 BK2.out) hu rfl (by kernel_rfl)) rfl ?_
  refine ⟨?_, ?_, q, ?_, ?_, Nat.le_of_lt HQ.out⟩
  · exact (Uq12 HP2.out)
  · exact (Uq13 HB2.out)
  · rfl
  · exact (Uq7 HE.out)
set_option maxHeartbeats 8000000 in
set_option maxRecDepth 100000 in
theorem part_text (toks : List Tok) (en i : Int) (n : Nat) (tk : Tok) (ht : toks[n]? = some tk) (hlen : toks.length ≤ 1000000) (hk : tk.f0 = 2) (ho : value_Of.f tk.f2 = some (3, 0, tk.f2)) : Does 132 toks en i n (.ok (constT ⟨3, 0, tk.f2⟩), n + 1) := by
  intro g W hp
  have hu := Tryz.underlying31
  have HG := Lib.hid hp.lt
  have HP0 := Lib.hid (hp.alloc nd0)
  have HB0 := Lib.hid (Bu.refl g (W.alloc nd0))
  have BK0 := Lib.hid (blk_new W nd0)
  have HPW := Lib.hid hp
  clear hp
  obtain ⟨At, ct, p0, p1, p2, y1, hpb, hpF⟩ := (HPW.out).cells
  obtain ⟨hn, ad, rfl, t0, t1, t2, t3⟩ := PS.tok' hpF n tk ht
  have hq : ((n : Int) == (toks.length : Int)) = false := by simp; omega
  have hq1 : ((0 : Int) ≤ (n : Int)) = True := eq_true (by omega)
  have hq2 : ((n : Int) < (toks.length : Int)) = True := eq_true (by omega)
  have w1 : IntKind.i64.wrap ((n : Int) + 1) = (n : Int) + 1 := by rw [i64_w, M.wrap64_id (by unfold I64; omega)]
  have hlt : (ad.add (n * 4)).block < W.heap.size := World.block_lt_of_cell? _ _ t0
  obtain ⟨⟨c0, c1, c2, c3, c4, c5, c6, c7, c8, c9⟩, z0, z1, z2, z3, z4, z5, z6, z7, z8, z9⟩ := z10 BK0.out
  have hg1 : (g = W.heap.size) = False := eq_false (Nat.ne_of_lt HG.out)
  have hg2 : (W.heap.size = g) = False := eq_false (Nat.ne_of_gt HG.out)
  have hg3 : g < W.heap.size := HG.out
  have HN := Lib.hid hn
  clear hpb hpF hlen ht hn
  have HNL := Lib.hid (Nat.le_of_lt HN.out)
  have hk1 : (tk.f0 == 1) = false := by rw [hk]; rfl
  have hk2 : (tk.f0 == 2) = true := by rw [hk]; rfl
  clear hk
  have HO := Lib.hid ho
  clear ho
  go_enter Tryz.func132, Tryz.ntmps132
  go_wp2
  repeat (go_quiet (fail); try go_wp2)
  go_region_held3 (fun w' => w'.cell? ⟨g, 0, none⟩ = some (.slice (some ad) toks.length ct) ∧ w'.cell? ⟨g, 1, none⟩ = some (.int .i64 (n : Int)) ∧ w'.cell? (ad.add (n * 4)) = some (.int .i64 tk.f0) ∧ w'.cell? ⟨(ad.add (n * 4)).block, (ad.add (n * 4)).off + 1, none⟩ = some (.int .i64 tk.f1) ∧ w'.cell? ⟨(ad.add (n * 4)).block, (ad.add (n * 4)).off + 2, none⟩ = some (.string tk.f2) ∧ w'.cell? ⟨(ad.add (n * 4)).block, (ad.add (n * 4)).off + 3, none⟩ = some (.int .i64 tk.f3)) (go_keep) (fail)
  go_wp2_with (first | (go_at_call 40; (with_reducible refine (value_Of.calls tk.f2 _ _ _ _ HO.out).mono ?_); rintro e w1 ⟨rfl, hbl⟩; have hb := Bu.of_below (g := g) hbl; have hp := PS.below (g := g) (toks := toks) (en := en) (at_ := (n : Int)) (Uq12 HP0.out) hbl; clear hbl; have HP1 := Lib.hid hp; have HB1 := Lib.hid (Bu.trans (g := g) (a := W.alloc nd0) (Uq14 HB0.out) hb); have BK1 := Lib.hid (hb.blk (k := W.heap.size) (o := nd0) (Uq15 BK0.out) (Nat.ne_of_gt HG.out)); clear hp hb; (try clear c0 c1 c2 c3 c4 c5 c6 c7 c8 c9 z0 z1 z2 z3 z4 z5 z6 z7 z8 z9 hsz); obtain ⟨⟨c0, c1, c2, c3, c4, c5, c6, c7, c8, c9⟩, z0, z1, z2, z3, z4, z5, z6, z7, z8, z9⟩ := z10 BK1.out; have hsz : W.heap.size < w1.heap.size := blk_lt BK1.out; have HZ1 := Lib.hid hsz; obtain ⟨Au, cu, g0, g1, g2, gz, -, -⟩ := (HP1.out).cells; have hgl := HP1.out.lt))
  refine bodyPost_ret (results_ct rfl _ _ W.heap.size 31 _ (0, 0) _ rfl (Uq16 BK1.out) hu rfl (by kernel_rfl)) rfl ?_
  refine ⟨?_, ?_, .slice none 0 0, ?_, Kd.V_nil _ _ _ _ _⟩
  · show PS g toks en ((n : Int) + 1) _
    exact (Uq12 HP1.out)
  · exact (Uq13 HB1.out)
  · rfl
end Go.Proofs.YtnomfbmebafolaaGreatDoor.P

namespace Go.Proofs.YtnomfbmebafolaaGreatDoor.P
open Go.RowKit Go.Proofs.YtnomfbmebafolaaGreatDoorW.PrintWords Go.Proofs.YtnomfbmebafolaaGreatDoorW.PrintLast Go.Proofs.YtnomfbmebafolaaGreatDoorW.PrintMore
open M (I64)
set_option linter.unusedVariables false
set_option linter.unusedSimpArgs false
def opensV (toks : List Tok) (n : Nat) : Bool := match toks[n + 1]? with | some t => decide (t.f0 = 4) && (t.f2.toList == ([40] : List UInt8)) | none => false
set_option maxHeartbeats 4000000 in
set_option maxRecDepth 100000 in
theorem opens_quiet (g : Nat) (toks : List Tok) (en : Int) (n : Nat) (hn : n ≤ toks.length) (hlen : toks.length ≤ 1000000) (W : World) (hp : PS g toks en (n : Int) W) :
    Calls Tryz.prog 136 #[ptr g] W fun e W' => e = .returned (.bool (opensV toks n)) ∧ ∃ m, W' = W.drewN m := by
  obtain ⟨At, ct, c0, c1, c2, z1, hb, hF⟩ := hp.cells
  have w1 : IntKind.i64.wrap ((n : Int) + 1) = (n : Int) + 1 := by rw [i64_w, M.wrap64_id (by unfold I64; omega)]
  unfold opensV
  by_cases h : n + 1 < toks.length
  · obtain ⟨tk, htk⟩ : ∃ tk, toks[n + 1]? = some tk := ⟨_, List.getElem?_eq_getElem h⟩
    rw [htk]
    obtain ⟨_, ad, rfl, t0, t1, t2, t3⟩ := PS.tok' hF (n + 1) tk htk
    have hq : decide ((n : Int) + 1 < (toks.length : Int)) = true := decide_eq_true (by omega)
    have hq1 : ((0 : Int) ≤ (n : Int) + 1) = True := eq_true (by omega)
    have hq2 : ((n : Int) + 1 < (toks.length : Int)) = True := eq_true (by omega)
    have e1 : ((n : Int) + 1).toNat = n + 1 := by omega
    simp only []
    by_cases h4 : tk.f0 = 4
    · have hk : (tk.f0 == 4) = true := by rw [h4]; rfl
      rw [decide_eq_true h4, Bool.true_and]
      cases hs : (tk.f2.toList == ([40] : List UInt8))
      all_goals
        clear hp hb hF h htk h4 hlen hn
        go_enter Tryz.func136, Tryz.ntmps136
        go_wp2
        repeat (go_quiet (fail); try go_wp2)
        go_ret
        exact ⟨by first | rfl | (simp [hs]; done), by first | exact ⟨0, (World.drewN_zero _).symm⟩ | exact ⟨_, rfl⟩ | exact ⟨1, rfl⟩⟩
    · have hk : (tk.f0 == 4) = false := beq_eq_false_iff_ne.2 h4
      rw [decide_eq_false h4, Bool.false_and]
      clear hp hb hF h htk h4 hlen hn
      go_enter Tryz.func136, Tryz.ntmps136
      go_wp2
      repeat (go_quiet (fail); try go_wp2)
      go_ret
      exact ⟨by first | rfl | (simp; done), by first | exact ⟨0, (World.drewN_zero _).symm⟩ | exact ⟨_, rfl⟩ | exact ⟨1, rfl⟩⟩
  · rw [List.getElem?_eq_none (by omega)]
    have hq : decide ((n : Int) + 1 < (toks.length : Int)) = false := decide_eq_false (by omega)
    clear hp hb hF h hlen hn
    go_enter Tryz.func136, Tryz.ntmps136
    go_wp2
    repeat (go_quiet (fail); try go_wp2)
    go_ret
    exact ⟨by first | rfl | (simp; done), by first | exact ⟨0, (World.drewN_zero _).symm⟩ | exact ⟨_, rfl⟩ | exact ⟨1, rfl⟩⟩
theorem opens_calls (g : Nat) (toks : List Tok) (en : Int) (n : Nat) (hn : n ≤ toks.length) (hlen : toks.length ≤ 1000000) (W : World) (hp : PS g toks en (n : Int) W) :
    Calls Tryz.prog 136 #[ptr g] W fun e W' => e = .returned (.bool (opensV toks n)) ∧ Below W.heap.size W W' := by
  refine (opens_quiet g toks en n hn hlen W hp).mono ?_
  rintro e W' ⟨rfl, m, rfl⟩
  exact ⟨rfl, pw_below_drewN (Below.refl _ _) _⟩
end Go.Proofs.YtnomfbmebafolaaGreatDoor.P

namespace Go.Proofs.YtnomfbmebafolaaGreatDoor.P
open Go.RowKit Go.Proofs.YtnomfbmebafolaaGreatDoorW.PrintWords Go.Proofs.YtnomfbmebafolaaGreatDoorW.PrintLast Go.Proofs.YtnomfbmebafolaaGreatDoorW.PrintMore
attribute [local go_sem] max2_int min2_int max_two min_two max_three min_three max_four min_four   -- for this text's walks alone
set_option linter.unusedVariables false
set_option linter.unusedSimpArgs false
def addr_Good.f (a0_0 : Int) (a0_1 : Int) : Option (Bool) := if a0_0 ≥ 1 then (if a0_0 ≤ 1000 then (if a0_1 ≥ 1 then (some (decide (a0_1 ≤ 50))) else (some false)) else (some false)) else (some false)
set_option maxHeartbeats 8000000 in
set_option maxRecDepth 100000 in
theorem addr_Good.calls (a0_0 : Int) (a0_1 : Int) (r : Bool) (w : World) (h : addr_Good.f a0_0 a0_1 = some r) :
    Calls Tryz.prog 48 #[.agg #[.int .i64 a0_0, .int .i64 a0_1]] w fun e w' => e = .returned (.bool r) ∧ Below w.heap.size w w' := by
  have hu26 := Tryz.underlying26
  have HB := Aside0.mk (Below.refl w.heap.size w)
  have H : (if a0_0 ≥ 1 then (if a0_0 ≤ 1000 then (if a0_1 ≥ 1 then (some (decide (a0_1 ≤ 50))) else (some false)) else (some false)) else (some false)) = some r := h
  clear h
  by_cases c2 : a0_0 ≥ 1
  · rw [if_pos c2] at H
    have c2b0 : decide (1 ≤ a0_0) = true := decide_eq_true c2
    clear c2
    by_cases c3 : a0_0 ≤ 1000
    · rw [if_pos c3] at H
      have c3b0 : decide (a0_0 ≤ 1000) = true := decide_eq_true c3
      clear c3
      by_cases c4 : a0_1 ≥ 1
      · rw [if_pos c4] at H
        have c4b0 : decide (1 ≤ a0_1) = true := decide_eq_true c4
        clear c4
        obtain rfl := Option.some.inj H
        go_enter Tryz.func48, Tryz.ntmps48
        go_wp2_with (first | ((with_reducible refine gate_dst (N := 1) rfl ?_); refine box_event ?hg (N := 1) ?hd (cs := #[.int .i64 a0_0, .int .i64 a0_1]) (t := 26) ?hr ?_; (case hd => rfl); (case hg => rfl); (case hr => first | (go_simp; done) | (go_simp; rfl)); intro gb112 hg w5 hbox hb; have n0_ := Aside0.mk (below_step zz1 hb); have n1_ := Aside0.mk (hbox); have n2_ := Aside0.mk ((by rw [hg]; exact (below_size zz1) : w.heap.size ≤ gb112)); have n3_ := n2_; clear HB; have HB := n0_; have BK112 := n1_; have GW112 := n2_; have GE112 := n3_; clear n0_ n1_ n2_ n3_; clear hb hbox hg; obtain ⟨_, _, _, _⟩ := zC2 BK112.out))
        go_ret
        exact ⟨zz26, zz17⟩
      · rw [if_neg c4] at H
        have c4b0 : decide (1 ≤ a0_1) = false := decide_eq_false c4
        clear c4
        obtain rfl := Option.some.inj H
        go_enter Tryz.func48, Tryz.ntmps48
        go_wp2_with (first | ((with_reducible refine gate_dst (N := 1) rfl ?_); refine box_event ?hg (N := 1) ?hd (cs := #[.int .i64 a0_0, .int .i64 a0_1]) (t := 26) ?hr ?_; (case hd => rfl); (case hg => rfl); (case hr => first | (go_simp; done) | (go_simp; rfl)); intro gb112 hg w7 hbox hb; have n0_ := Aside0.mk (below_step zz1 hb); have n1_ := Aside0.mk (hbox); have n2_ := Aside0.mk ((by rw [hg]; exact (below_size zz1) : w.heap.size ≤ gb112)); have n3_ := n2_; clear HB; have HB := n0_; have BK112 := n1_; have GW112 := n2_; have GE112 := n3_; clear n0_ n1_ n2_ n3_; clear hb hbox hg; obtain ⟨_, _, _, _⟩ := zC2 BK112.out))
        go_ret
        exact ⟨zz26, zz17⟩
    · rw [if_neg c3] at H
      have c3b0 : decide (a0_0 ≤ 1000) = false := decide_eq_false c3
      clear c3
      obtain rfl := Option.some.inj H
      go_enter Tryz.func48, Tryz.ntmps48
      go_wp2_with (first | ((with_reducible refine gate_dst (N := 1) rfl ?_); refine box_event ?hg (N := 1) ?hd (cs := #[.int .i64 a0_0, .int .i64 a0_1]) (t := 26) ?hr ?_; (case hd => rfl); (case hg => rfl); (case hr => first | (go_simp; done) | (go_simp; rfl)); intro gb112 hg w9 hbox hb; have n0_ := Aside0.mk (below_step zz1 hb); have n1_ := Aside0.mk (hbox); have n2_ := Aside0.mk ((by rw [hg]; exact (below_size zz1) : w.heap.size ≤ gb112)); have n3_ := n2_; clear HB; have HB := n0_; have BK112 := n1_; have GW112 := n2_; have GE112 := n3_; clear n0_ n1_ n2_ n3_; clear hb hbox hg; obtain ⟨_, _, _, _⟩ := zC2 BK112.out))
      go_ret
      exact ⟨zz26, zz17⟩
  · rw [if_neg c2] at H
    have c2b0 : decide (1 ≤ a0_0) = false := decide_eq_false c2
    clear c2
    obtain rfl := Option.some.inj H
    go_enter Tryz.func48, Tryz.ntmps48
    go_wp2_with (first | ((with_reducible refine gate_dst (N := 1) rfl ?_); refine box_event ?hg (N := 1) ?hd (cs := #[.int .i64 a0_0, .int .i64 a0_1]) (t := 26) ?hr ?_; (case hd => rfl); (case hg => rfl); (case hr => first | (go_simp; done) | (go_simp; rfl)); intro gb112 hg w11 hbox hb; have n0_ := Aside0.mk (below_step zz1 hb); have n1_ := Aside0.mk (hbox); have n2_ := Aside0.mk ((by rw [hg]; exact (below_size zz1) : w.heap.size ≤ gb112)); have n3_ := n2_; clear HB; have HB := n0_; have BK112 := n1_; have GW112 := n2_; have GE112 := n3_; clear n0_ n1_ n2_ n3_; clear hb hbox hg; obtain ⟨_, _, _, _⟩ := zC2 BK112.out))
    go_ret
    exact ⟨zz26, zz17⟩
end Go.Proofs.YtnomfbmebafolaaGreatDoor.P
