/- The contract of bytes.IndexByte: by the model's entry internal/bytealg.IndexByte. -/
import Derived.Test.YthomfanpdnpmaaaBytesOf
namespace Go.Proofs.Ythomfanpdnpmaaa.P
open Go.RowKit Go.Proofs.YthomfanpdnpmaaaW.PrintWords Go.Proofs.YthomfanpdnpmaaaW.PrintLast Go.Proofs.YthomfanpdnpmaaaW.PrintMore
set_option linter.unusedVariables false
set_option linter.unusedSimpArgs false
def bytes_IndexByte.f (l0 : List Int) (x : Int) : Option Int := some (Lib.indexByte (Lib.bytesOf l0) x.toNat.toUInt8)
theorem run_index_C {P : Program} {w : World} {A : Option Addr} {n c : Nat} {xs : List Int} (h : (Kd.int .u8).C w A n xs) (x : Int) :
    (Extern.BytealgIndexByte.indexByte #[.slice A n c, .int .u8 x]).run P w = .ok (.int .i64 (Lib.indexByte (Lib.bytesOf xs) x.toNat.toUInt8)) w := by
  have e1 := run_bytesOf_C (P := P) (c := c) h
  have e3 := Lib.run_indexByteString (P := P) ⟨(Lib.bytesOf xs).toArray⟩ x w
  change Sem.run P (do
    let b ← Extern.Bytes.bytesOf (.slice A n c)
    let c ← Extern.Bytes.asByte (.int .u8 x)
    match (List.range b.size).find? fun i => b[i]! == c with
    | some i => pure (goInt i)
    | none => pure (goInt (-1))) w = _
  rw [Sem.run_bind, e1]
  exact e3
set_option maxHeartbeats 2000000 in
set_option maxRecDepth 1000000 in
theorem bytes_IndexByte.calls (A0 : Option Addr) (c0 : Nat) (l0 : List Int) (a1 : Int) (r : Int) (w : World) (hr0 : Kd.C (Kd.int .u8) w A0 l0.length l0) (hc0 : l0.length ≤ c0) (h : bytes_IndexByte.f l0 a1 = some r) :
    Calls Try.prog 58 #[.slice A0 l0.length c0, .int .u8 a1] w fun e w' => e = .returned (.int .i64 r) ∧ Drawn0 w w' := by
  have HR0 := Aside0.mk hr0
  clear hr0
  have H : some (Lib.indexByte (Lib.bytesOf l0) a1.toNat.toUInt8) = some r := h
  clear h
  obtain rfl := Option.some.inj H
  clear H
  go_enter Try.func58, Try.ntmps58
  go_wp2
  rw [run_callFunc_extern Try.func76 (by kernel_rfl) (by kernel_rfl) (by kernel_rfl) (e := Extern.BytealgIndexByte.indexByte) (by kernel_rfl), run_index_C HR0.out a1]
  simp only [Result.andThen]
  rw [Oper.upon_value]
  go_wp2
  go_ret
  exact ⟨rfl, Drawn0.refl _⟩
end Go.Proofs.Ythomfanpdnpmaaa.P
