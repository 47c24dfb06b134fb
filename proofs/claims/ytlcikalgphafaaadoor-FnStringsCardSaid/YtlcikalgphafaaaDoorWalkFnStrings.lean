/- The walk of laws.FnStrings on its true ways: the values of its calls come in as hypotheses. Printed by mkstr.py of this repo. -/
import Derived.Test.YtlcikalgphafaaaDoorPx9
import Derived.Test.YtlcikalgphafaaaDoorPx12
import Derived.Test.YtlcikalgphafaaaDoorPx15
import Derived.Test.YtlcikalgphafaaaDoorParseI
import Derived.Test.YtlcikalgphafaaaDoorPx17
import Derived.Test.YtlcikalgphafaaaDoorPx18
import Derived.Test.YtlcikalgphafaaaDoorPx19
import Derived.Test.YtlcikalgphafaaaDoorStrQ
import Derived.Lib.ConvBytes
namespace Go.Proofs.YtlcikalgphafaaaDoor.P
open Go.RowKit Go.Proofs.YtlcikalgphafaaaDoorW.PrintWords Go.Proofs.YtlcikalgphafaaaDoorW.PrintLast Go.Proofs.YtlcikalgphafaaaDoorW.PrintMore
set_option linter.unusedVariables false
set_option linter.unusedSimpArgs false
attribute [local go_sem] pset_drewN
theorem C_of_cells {w : World} {g n : Nat} {xs : List Int} (hl : xs.length = n) (hm : n ≤ 9223372036854775807) (h : ∀ j p, xs[j]? = some p → w.cell? ⟨g, j, none⟩ = some (.int .u8 p)) : Kd.C (Kd.int .u8) w (some ⟨g, 0, none⟩) n xs := by
  refine ⟨hl, hm, fun _ => ⟨_, rfl, fun j p hj => ⟨[.int .u8 p], rfl, rfl, fun i u hi => ?_⟩⟩⟩
  cases i with
  | zero =>
    obtain rfl := Option.some.inj hi
    have e : ((⟨g, 0, none⟩ : Addr).add (j * (Kd.int .u8).sz + 0)) = ⟨g, j, none⟩ := by
      have e1 : j * (Kd.int .u8).sz + 0 = j := Nat.mul_one _
      rw [e1]
      unfold Addr.add
      by_cases h0 : j = 0
      · subst h0; rfl
      · rw [if_neg h0]; simp
    rw [e]
    exact h j p hj
  | succ i => simp at hi
set_option maxHeartbeats 8000000 in
set_option maxRecDepth 100000 in
theorem FnStrings_open (k : Nat) (A0 : Option Addr) (c0 : Nat) (l0 : List Int) (n : Int) (s : ByteArray) (ok : Bool) (t : ByteArray) (m : Int) (fine : Bool) (x y : ByteArray) (b1 : Int) (b2 : Bool) (w : World) (hr0 : Kd.C (Kd.int .u8) w A0 l0.length l0) (hc0 : l0.length ≤ c0) (hE1 : laws_vBig.f l0 = some false) (hE2 : spec_DrawFormatInt.f l0 = some n) (hE3 : impl_FormatInt.f n = some (s, ok)) (hE4 : spec_FormatInt.f k n = some (s, ok)) (hE5 : spec_DrawParseInt.f k l0 = some t) (hE6 : impl_ParseInt.f t = some (m, fine)) (hE7 : spec_ParseInt.f k t = some (m, fine)) (hE8 : spec_DrawAppendChecksum.f l0 = some x) (hE9 : impl_AppendChecksum.f k x = some (y, false)) (hE10 : spec_AppendChecksum.f k x = some (y, false)) (hE11 : impl_ParseInt.f s = some (b1, b2)) (hq : (ok = true ∧ b2 = true ∧ n = b1) ∨ ok = false) (hy : y = ⟨#[]⟩) (HTA : Aside0 (TabA w)) (HTB : Aside0 (TabB w)) (HTC : Aside0 (TabC w)) :
    Calls Tryd.prog 3 #[.slice A0 l0.length c0] w fun e w' => e = .returned (.bool true) ∧ Below w.heap.size w w' := by
  have HR0 := Aside0.mk hr0
  have HC0 := Aside0.mk hc0
  clear hr0 hc0
  have E1 := Aside0.mk hE1
  have E2 := Aside0.mk hE2
  have E3 := Aside0.mk hE3
  have E4 := Aside0.mk hE4
  have E5 := Aside0.mk hE5
  have E6 := Aside0.mk hE6
  have E7 := Aside0.mk hE7
  have E8 := Aside0.mk hE8
  have E9 := Aside0.mk hE9
  have E10 := Aside0.mk hE10
  have E11 := Aside0.mk hE11
  clear hE1 hE2 hE3 hE4 hE5 hE6 hE7 hE8 hE9 hE10 hE11
  have HB := Aside0.mk (Below.refl w.heap.size w)
  have b_m : (m != m) = false := by simp
  have b_n : (n != n) = false := by simp
  have b_s : (s.toList != s.toList) = false := by simp
  have b_y : (y.toList != y.toList) = false := by simp
  have b_f : (fine != fine) = false := by cases fine <;> rfl
  subst hy
  rcases hq with ⟨rfl, rfl, rfl⟩ | rfl
  all_goals
    go_enter Tryd.func3, Tryd.ntmps3
    go_wp2_with (go_at_fn 7; fail)
    refine (laws_vBig.calls _ _ l0 false _ (Kd.C_below HR0.out (by repeat (first | (with_reducible first | exact HB.out | apply below_alloc | apply pw_below_drewN | apply below_drew1) | exact HB.out))) HC0.out E1.out).mono ?_
    rintro e w' ⟨rfl, hd⟩
    have hb := hd.below
    clear hd
    have n0_ := Aside0.mk (below_step (by repeat (first | (with_reducible first | exact HB.out | apply below_alloc | apply pw_below_drewN | apply below_drew1) | exact HB.out)) hb)
    clear HB
    have HB := n0_
    clear n0_ hb
    go_wp2_with (go_at_fn 8; fail)
    refine (spec_DrawFormatInt.calls _ _ l0 n _ (Kd.C_below HR0.out (by repeat (first | (with_reducible first | exact HB.out | apply below_alloc | apply pw_below_drewN | apply below_drew1) | exact HB.out))) HC0.out E2.out).mono ?_
    rintro e w' ⟨rfl, hb⟩
    have n0_ := Aside0.mk (below_step (by repeat (first | (with_reducible first | exact HB.out | apply below_alloc | apply pw_below_drewN | apply below_drew1) | exact HB.out)) hb)
    clear HB
    have HB := n0_
    clear n0_ hb
    go_wp2_with (go_at_fn 9; fail)
    refine (impl_FormatInt.calls n s _ _ E3.out).mono ?_
    rintro e w' ⟨rfl, hb⟩
    have n0_ := Aside0.mk (below_step (by repeat (first | (with_reducible first | exact HB.out | apply below_alloc | apply pw_below_drewN | apply below_drew1) | exact HB.out)) hb)
    clear HB
    have HB := n0_
    clear n0_ hb
    go_wp2_with (go_at_fn 10; fail)
    refine (spec_FormatInt.calls k n s _ _ E4.out).mono ?_
    rintro e w' ⟨rfl, hb⟩
    have n0_ := Aside0.mk (below_step (by repeat (first | (with_reducible first | exact HB.out | apply below_alloc | apply pw_below_drewN | apply below_drew1) | exact HB.out)) hb)
    clear HB
    have HB := n0_
    clear n0_ hb
    go_wp2_with (go_at_fn 11; fail)
    refine (spec_DrawParseInt.calls k _ _ l0 t _ (Kd.C_below HR0.out (by repeat (first | (with_reducible first | exact HB.out | apply below_alloc | apply pw_below_drewN | apply below_drew1) | exact HB.out))) HC0.out E5.out).mono ?_
    rintro e w' ⟨rfl, hb⟩
    have n0_ := Aside0.mk (below_step (by repeat (first | (with_reducible first | exact HB.out | apply below_alloc | apply pw_below_drewN | apply below_drew1) | exact HB.out)) hb)
    clear HB
    have HB := n0_
    clear n0_ hb
    go_wp2_with (go_at_fn 12; fail)
    refine (impl_ParseInt.calls t m fine _ E6.out).mono ?_
    rintro e w' ⟨rfl, hb⟩
    have n0_ := Aside0.mk (below_step (by repeat (first | (with_reducible first | exact HB.out | apply below_alloc | apply pw_below_drewN | apply below_drew1) | exact HB.out)) hb)
    clear HB
    have HB := n0_
    clear n0_ hb
    go_wp2_with (go_at_fn 13; fail)
    refine (spec_ParseInt.calls k t m fine _ E7.out).mono ?_
    rintro e w' ⟨rfl, hb⟩
    have n0_ := Aside0.mk (below_step (by repeat (first | (with_reducible first | exact HB.out | apply below_alloc | apply pw_below_drewN | apply below_drew1) | exact HB.out)) hb)
    clear HB
    have HB := n0_
    clear n0_ hb
    go_wp2_with (go_at_fn 14; fail)
    refine (spec_DrawAppendChecksum.calls _ _ l0 x _ (Kd.C_below HR0.out (by repeat (first | (with_reducible first | exact HB.out | apply below_alloc | apply pw_below_drewN | apply below_drew1) | exact HB.out))) HC0.out E8.out).mono ?_
    rintro e w' ⟨rfl, hb⟩
    have n0_ := Aside0.mk (below_step (by repeat (first | (with_reducible first | exact HB.out | apply below_alloc | apply pw_below_drewN | apply below_drew1) | exact HB.out)) hb)
    clear HB
    have HB := n0_
    clear n0_ hb
    go_wp2_with (go_at_fn 15; fail)
    refine (impl_AppendChecksum.calls k x (⟨#[]⟩ : ByteArray) _ _ E9.out).mono ?_
    rintro e w' ⟨rfl, hb⟩
    have n0_ := Aside0.mk (below_step (by repeat (first | (with_reducible first | exact HB.out | apply below_alloc | apply pw_below_drewN | apply below_drew1) | exact HB.out)) hb)
    clear HB
    have HB := n0_
    clear n0_ hb
    go_wp2_with (go_at_fn 16; fail)
    refine (spec_AppendChecksum.calls k x (⟨#[]⟩ : ByteArray) _ _ E10.out).mono ?_
    rintro e w' ⟨rfl, hb⟩
    have n0_ := Aside0.mk (below_step (by repeat (first | (with_reducible first | exact HB.out | apply below_alloc | apply pw_below_drewN | apply below_drew1) | exact HB.out)) hb)
    clear HB
    have HB := n0_
    clear n0_ hb
    go_wp2_with (go_at_fn 12; fail)
    refine (impl_ParseInt.calls s _ _ _ E11.out).mono ?_
    rintro e w' ⟨rfl, hb⟩
    have n0_ := Aside0.mk (below_step (by repeat (first | (with_reducible first | exact HB.out | apply below_alloc | apply pw_below_drewN | apply below_drew1) | exact HB.out)) hb)
    clear HB
    have HB := n0_
    clear n0_ hb
    go_wp2
    go_ret
    exact ⟨by first | rfl | (simp; done), HB.out⟩
set_option maxHeartbeats 4000000 in
set_option maxRecDepth 100000 in
theorem FnStrings_big (A0 : Option Addr) (c0 : Nat) (l0 : List Int) (w : World) (hr0 : Kd.C (Kd.int .u8) w A0 l0.length l0) (hc0 : l0.length ≤ c0) (hE1 : laws_vBig.f l0 = some true) :
    Calls Tryd.prog 3 #[.slice A0 l0.length c0] w fun e w' => e = .returned (.bool true) ∧ Below w.heap.size w w' := by
  have HR0 := Aside0.mk hr0
  have HC0 := Aside0.mk hc0
  have E1 := Aside0.mk hE1
  clear hr0 hc0 hE1
  have HB := Aside0.mk (Below.refl w.heap.size w)
  go_enter Tryd.func3, Tryd.ntmps3
  go_wp2_with (go_at_fn 7; fail)
  refine (laws_vBig.calls _ _ l0 true _ (Kd.C_below HR0.out (by repeat (first | (with_reducible first | exact HB.out | apply below_alloc | apply pw_below_drewN | apply below_drew1) | exact HB.out))) HC0.out E1.out).mono ?_
  rintro e w' ⟨rfl, hd⟩
  have hb := hd.below
  clear hd
  have n0_ := Aside0.mk (below_step (by repeat (first | (with_reducible first | exact HB.out | apply below_alloc | apply pw_below_drewN | apply below_drew1) | exact HB.out)) hb)
  clear HB
  have HB := n0_
  clear n0_ hb
  go_wp2
  go_ret
  exact ⟨rfl, HB.out⟩
set_option maxHeartbeats 8000000 in
set_option maxRecDepth 100000 in
theorem laws_FnStrings.walk (k : Nat) (A0 : Option Addr) (c0 : Nat) (l0 : List Int) (n : Int) (s : ByteArray) (ok : Bool) (t : ByteArray) (m : Int) (fine : Bool) (x y : ByteArray) (b1 : Int) (b2 : Bool) (w : World) (hr0 : Kd.C (Kd.int .u8) w A0 l0.length l0) (hc0 : l0.length ≤ c0) (hE1 : laws_vBig.f l0 = some false) (hE2 : spec_DrawFormatInt.f l0 = some n) (hE3 : impl_FormatInt.f n = some (s, ok)) (hE4 : spec_FormatInt.f k n = some (s, ok)) (hE5 : spec_DrawParseInt.f k l0 = some t) (hE6 : impl_ParseInt.f t = some (m, fine)) (hE7 : spec_ParseInt.f k t = some (m, fine)) (hE8 : spec_DrawAppendChecksum.f l0 = some x) (hE9 : impl_AppendChecksum.f k x = some (y, true)) (hE10 : spec_AppendChecksum.f k x = some (y, true)) (hE11 : impl_ParseInt.f s = some (b1, b2)) (hq : (ok = true ∧ b2 = true ∧ n = b1) ∨ ok = false) (v9 v10 : Int) (q : Nat) (u z : ByteArray) (hE12 : impl_VerifyChecksum.f k y = some (x, true)) (hE13 : laws_vAt.f l0 9 = some v9) (hE14 : laws_vAt.f l0 10 = some v10) (hE15 : impl_VerifyChecksum.f k u = some (z, false)) (hq1 : Int.tmod v9 (y.size : Int) = (q : Int)) (hq2 : q < y.size) (hv : 0 ≤ v10 ∧ v10 < 256) (hy0 : y.size ≤ 1000000) (hu : u = strOfNums ((bytesOf y).set q (Go.bits .xor .u8 (rd (bytesOf y) (q : Int)) (IntKind.u8.wrap (wrap64 (1 + Int.tmod v10 255)))))) (HTA : Aside0 (TabA w)) (HTB : Aside0 (TabB w)) (HTC : Aside0 (TabC w)) :
    Calls Tryd.prog 3 #[.slice A0 l0.length c0] w fun e w' => e = .returned (.bool true) ∧ Below w.heap.size w w' := by
  have HR0 := Aside0.mk hr0
  have HC0 := Aside0.mk hc0
  clear hr0 hc0
  have E1 := Aside0.mk hE1
  have E2 := Aside0.mk hE2
  have E3 := Aside0.mk hE3
  have E4 := Aside0.mk hE4
  have E5 := Aside0.mk hE5
  have E6 := Aside0.mk hE6
  have E7 := Aside0.mk hE7
  have E8 := Aside0.mk hE8
  have E9 := Aside0.mk hE9
  have E10 := Aside0.mk hE10
  have E11 := Aside0.mk hE11
  clear hE1 hE2 hE3 hE4 hE5 hE6 hE7 hE8 hE9 hE10 hE11
  have HB := Aside0.mk (Below.refl w.heap.size w)
  have b_m : (m != m) = false := by simp
  have b_n : (n != n) = false := by simp
  have b_s : (s.toList != s.toList) = false := by simp
  have b_y : (y.toList != y.toList) = false := by simp
  have b_f : (fine != fine) = false := by cases fine <;> rfl
  have E12 := Aside0.mk hE12
  have E13 := Aside0.mk hE13
  have E14 := Aside0.mk hE14
  have E15 := Aside0.mk hE15
  clear hE12 hE13 hE14 hE15
  rcases hq with ⟨rfl, rfl, rfl⟩ | rfl
  all_goals
    go_enter Tryd.func3, Tryd.ntmps3
    go_wp2_with (go_at_fn 7; fail)
    refine (laws_vBig.calls _ _ l0 false _ (Kd.C_below HR0.out (by repeat (first | (with_reducible first | exact HB.out | apply below_alloc | apply pw_below_drewN | apply below_drew1) | exact HB.out))) HC0.out E1.out).mono ?_
    rintro e w' ⟨rfl, hd⟩
    have hb := hd.below
    clear hd
    have n0_ := Aside0.mk (below_step (by repeat (first | (with_reducible first | exact HB.out | apply below_alloc | apply pw_below_drewN | apply below_drew1) | exact HB.out)) hb)
    clear HB
    have HB := n0_
    clear n0_ hb
    go_wp2_with (go_at_fn 8; fail)
    refine (spec_DrawFormatInt.calls _ _ l0 n _ (Kd.C_below HR0.out (by repeat (first | (with_reducible first | exact HB.out | apply below_alloc | apply pw_below_drewN | apply below_drew1) | exact HB.out))) HC0.out E2.out).mono ?_
    rintro e w' ⟨rfl, hb⟩
    have n0_ := Aside0.mk (below_step (by repeat (first | (with_reducible first | exact HB.out | apply below_alloc | apply pw_below_drewN | apply below_drew1) | exact HB.out)) hb)
    clear HB
    have HB := n0_
    clear n0_ hb
    go_wp2_with (go_at_fn 9; fail)
    refine (impl_FormatInt.calls n s _ _ E3.out).mono ?_
    rintro e w' ⟨rfl, hb⟩
    have n0_ := Aside0.mk (below_step (by repeat (first | (with_reducible first | exact HB.out | apply below_alloc | apply pw_below_drewN | apply below_drew1) | exact HB.out)) hb)
    clear HB
    have HB := n0_
    clear n0_ hb
    go_wp2_with (go_at_fn 10; fail)
    refine (spec_FormatInt.calls k n s _ _ E4.out).mono ?_
    rintro e w' ⟨rfl, hb⟩
    have n0_ := Aside0.mk (below_step (by repeat (first | (with_reducible first | exact HB.out | apply below_alloc | apply pw_below_drewN | apply below_drew1) | exact HB.out)) hb)
    clear HB
    have HB := n0_
    clear n0_ hb
    go_wp2_with (go_at_fn 11; fail)
    refine (spec_DrawParseInt.calls k _ _ l0 t _ (Kd.C_below HR0.out (by repeat (first | (with_reducible first | exact HB.out | apply below_alloc | apply pw_below_drewN | apply below_drew1) | exact HB.out))) HC0.out E5.out).mono ?_
    rintro e w' ⟨rfl, hb⟩
    have n0_ := Aside0.mk (below_step (by repeat (first | (with_reducible first | exact HB.out | apply below_alloc | apply pw_below_drewN | apply below_drew1) | exact HB.out)) hb)
    clear HB
    have HB := n0_
    clear n0_ hb
    go_wp2_with (go_at_fn 12; fail)
    refine (impl_ParseInt.calls t m fine _ E6.out).mono ?_
    rintro e w' ⟨rfl, hb⟩
    have n0_ := Aside0.mk (below_step (by repeat (first | (with_reducible first | exact HB.out | apply below_alloc | apply pw_below_drewN | apply below_drew1) | exact HB.out)) hb)
    clear HB
    have HB := n0_
    clear n0_ hb
    go_wp2_with (go_at_fn 13; fail)
    refine (spec_ParseInt.calls k t m fine _ E7.out).mono ?_
    rintro e w' ⟨rfl, hb⟩
    have n0_ := Aside0.mk (below_step (by repeat (first | (with_reducible first | exact HB.out | apply below_alloc | apply pw_below_drewN | apply below_drew1) | exact HB.out)) hb)
    clear HB
    have HB := n0_
    clear n0_ hb
    go_wp2_with (go_at_fn 14; fail)
    refine (spec_DrawAppendChecksum.calls _ _ l0 x _ (Kd.C_below HR0.out (by repeat (first | (with_reducible first | exact HB.out | apply below_alloc | apply pw_below_drewN | apply below_drew1) | exact HB.out))) HC0.out E8.out).mono ?_
    rintro e w' ⟨rfl, hb⟩
    have n0_ := Aside0.mk (below_step (by repeat (first | (with_reducible first | exact HB.out | apply below_alloc | apply pw_below_drewN | apply below_drew1) | exact HB.out)) hb)
    clear HB
    have HB := n0_
    clear n0_ hb
    go_wp2_with (go_at_fn 15; fail)
    refine (impl_AppendChecksum.calls k x y _ _ E9.out).mono ?_
    rintro e w' ⟨rfl, hb⟩
    have n0_ := Aside0.mk (below_step (by repeat (first | (with_reducible first | exact HB.out | apply below_alloc | apply pw_below_drewN | apply below_drew1) | exact HB.out)) hb)
    clear HB
    have HB := n0_
    clear n0_ hb
    go_wp2_with (go_at_fn 16; fail)
    refine (spec_AppendChecksum.calls k x y _ _ E10.out).mono ?_
    rintro e w' ⟨rfl, hb⟩
    have n0_ := Aside0.mk (below_step (by repeat (first | (with_reducible first | exact HB.out | apply below_alloc | apply pw_below_drewN | apply below_drew1) | exact HB.out)) hb)
    clear HB
    have HB := n0_
    clear n0_ hb
    go_wp2_with (go_at_fn 12; fail)
    refine (impl_ParseInt.calls s _ _ _ E11.out).mono ?_
    rintro e w' ⟨rfl, hb⟩
    have n0_ := Aside0.mk (below_step (by repeat (first | (with_reducible first | exact HB.out | apply below_alloc | apply pw_below_drewN | apply below_drew1) | exact HB.out)) hb)
    clear HB
    have HB := n0_
    clear n0_ hb
    go_wp2_with (go_at_fn 17; fail)
    refine (impl_VerifyChecksum.calls k y x true _ E12.out).mono ?_
    rintro e w1 ⟨rfl, hb⟩
    have n0_ := Aside0.mk (below_step (by repeat (first | (with_reducible first | exact HB.out | apply below_alloc | apply pw_below_drewN | apply below_drew1) | exact HB.out)) hb)
    clear HB
    have HB := n0_
    clear n0_ hb
    have hcv := Lib.run_convert_string_bytes (P := Tryd.prog) w1 9 22 5 y (u := .string) Tryd.underlying9 Tryd.underlying22 Tryd.underlying5
    obtain ⟨g, hg⟩ : ∃ g, g = w1.heap.size := ⟨_, rfl⟩
    have hnew := Lib.bytesWorld_at_new w1 5 y
    have hbw := bytes_below HB.out (below_size HB.out) 5 y
    have hgl : w.heap.size ≤ g := by rw [hg]; exact below_size HB.out
    obtain ⟨cap, hcap⟩ : ∃ c, c = grownCap w1 y.size 0 5 := ⟨_, rfl⟩
    have hcs : ∀ j, j < y.size → (Lib.bytesCells w1 5 y)[j]? = some (.int .u8 (rd (bytesOf y) (j : Int))) := fun j hj => by
      rw [rd_bytesOf, bt_get y j (by rw [← size_list]; exact hj)]
      simp [Lib.bytesCells, Array.getElem?_append, hj]
    have hfr : y.size ≤ (Lib.bytesCells w1 5 y).size := by simp [Lib.bytesCells]
    obtain ⟨cs, hcsd⟩ : ∃ cs, cs = Lib.bytesCells w1 5 y := ⟨_, rfl⟩
    obtain ⟨W1, hW1⟩ : ∃ W1, W1 = Lib.bytesWorld w1 5 y := ⟨_, rfl⟩
    rw [← hW1, ← hcap, ← hg] at hcv
    rw [← hW1, ← hcsd, ← hg] at hnew
    rw [← hW1] at hbw
    rw [← hcsd] at hcs hfr
    clear HB hcap hW1 hcsd
    have HB := Aside0.mk hbw
    have HN := Aside0.mk hnew
    have HC := Aside0.mk hcs
    have HF := Aside0.mk hfr
    have HG := Aside0.mk hgl
    clear hbw hnew hcs hfr hgl hg
    have hz0 : ((y.size : Int) == 0) = false := beq_eq_false_iff_ne.mpr (by omega)
    have hz1 : ¬ ((y.size : Int) = 0) := by omega
    go_wp2_with (go_at_fn 18; fail)
    refine (laws_vAt.calls _ _ l0 9 v9 _ (Kd.C_below HR0.out (by repeat (first | (with_reducible first | exact HB.out | apply below_alloc | apply pw_below_drewN | apply below_drew1) | exact HB.out))) HC0.out E13.out).mono ?_
    rintro e w' ⟨rfl, ⟨nd, rfl⟩⟩
    have hnew := HN.out
    have hnew2 : (W1.drewN nd).heap[g]? = some (.cells cs 5 (cs.size, cs.size + 1)) := hnew
    have hbw := pw_below_drewN HB.out nd
    clear HN HB hnew hcv
    generalize W1.drewN nd = w2 at hnew2 hbw ⊢
    have HB := Aside0.mk hbw
    have HN := Aside0.mk hnew2
    clear hbw hnew2
    try go_wp2
    have p0 : 0 ≤ ((q : Nat) : Int) := by omega
    have q0 : ((q : Nat) : Int) < (y.size : Int) := by omega
    have hcell : w2.cell? ⟨g, q, none⟩ = some (.int .u8 (rd (bytesOf y) (q : Int))) := by simp only [World.cell?, HN.out]; exact HC.out q hq2
    replace p0 := eq_true p0
    replace q0 := eq_true q0
    have hbw := below_drew1 HB.out
    have hnew : w2.drew.heap[g]? = some (.cells cs 5 (cs.size, cs.size + 1)) := HN.out
    clear HB HN
    refine start_ (n := 14) (S := fun w' => w'.cell? ⟨g, q, none⟩ = some (.int .u8 (rd (bytesOf y) (q : Int)))) (ds := [13]) #[false, false, false, false, false, false, false, false, false, false, false, false, false, false] (by kernel_rfl) rfl rfl hcell (fun hHeld => ?_)
    clear hcell
    generalize w2.drew = w3 at hnew hbw hHeld ⊢
    have HB := Aside0.mk hbw
    have HN := Aside0.mk hnew
    clear hbw hnew
    refine pure_ (i := 0) (N := some 123) (v := ?_) (a' := ?_) #[true, false, false, false, false, false, false, false, false, false, false, false, false, false] rfl rfl (by kernel_rfl) (fun _ _ _ h => h) (Or.inl ⟨by rfl, ?_⟩) ?_ ?_
    rotate_left
    · intro w'
      go_simp
      with_reducible rfl
    rotate_left
    · simp only [Act.put, List.setIfInBounds_toArray, List.set_cons_zero, List.set_cons_succ, i64_w, i32_w]
      rfl
    refine pure_ (i := 1) (N := some 124) (v := ?_) (a' := ?_) #[true, true, false, false, false, false, false, false, false, false, false, false, false, false] rfl rfl (by kernel_rfl) (fun _ _ _ h => h) (Or.inl ⟨by rfl, ?_⟩) ?_ ?_
    rotate_left
    · intro w'
      go_simp
      with_reducible rfl
    rotate_left
    · simp only [Act.put, List.setIfInBounds_toArray, List.set_cons_zero, List.set_cons_succ, i64_w, i32_w]
      rfl
    refine pure_ (i := 2) (N := some 125) (v := ?_) (a' := ?_) #[true, true, true, false, false, false, false, false, false, false, false, false, false, false] rfl rfl (by kernel_rfl) (fun _ _ _ h => h) (Or.inl ⟨by rfl, ?_⟩) ?_ ?_
    rotate_left
    · intro w'
      go_simp
      with_reducible rfl
    rotate_left
    · simp only [Act.put, List.setIfInBounds_toArray, List.set_cons_zero, List.set_cons_succ, i64_w, i32_w]
      rfl
    refine pure_ (i := 3) (N := some 126) (v := ?_) (a' := ?_) #[true, true, true, true, false, false, false, false, false, false, false, false, false, false] rfl rfl (by kernel_rfl) (fun _ _ _ h => h) (Or.inl ⟨by rfl, ?_⟩) ?_ ?_
    rotate_left
    · intro w'
      go_simp
      with_reducible rfl
    rotate_left
    · simp only [Act.put, List.setIfInBounds_toArray, List.set_cons_zero, List.set_cons_succ, i64_w, i32_w]
      rfl
    refine pure_ (i := 4) (N := some 127) (v := ?_) (a' := ?_) #[true, true, true, true, true, false, false, false, false, false, false, false, false, false] rfl rfl (by kernel_rfl) (fun _ _ _ h => h) (Or.inl ⟨by rfl, ?_⟩) ?_ ?_
    rotate_left
    · intro w'
      go_simp
      with_reducible rfl
    rotate_left
    · simp only [Act.put, List.setIfInBounds_toArray, List.set_cons_zero, List.set_cons_succ, i64_w, i32_w]
      rfl
    refine pure_ (i := 6) (N := some 129) (v := ?_) (a' := ?_) #[true, true, true, true, true, false, true, false, false, false, false, false, false, false] rfl rfl (by kernel_rfl) (fun _ _ _ h => h) (Or.inl ⟨by rfl, ?_⟩) ?_ ?_
    rotate_left
    · intro w'
      go_simp
      with_reducible rfl
    rotate_left
    · simp only [Act.put, List.setIfInBounds_toArray, List.set_cons_zero, List.set_cons_succ, i64_w, i32_w]
      rfl
    refine take_ (i := 5) (N := some 128) (v := ?_) (a' := ?_) #[true, true, true, true, true, true, true, false, false, false, false, false, false, false] rfl rfl (by kernel_rfl) (fun _ _ _ h => h) (Or.inl ⟨by rfl, ?_⟩) hHeld ?_ ?_
    rotate_left
    · intro w' s0
      go_simp
      with_reducible rfl
    rotate_left
    · simp only [Act.put, List.setIfInBounds_toArray, List.set_cons_zero, List.set_cons_succ, i64_w, i32_w]
      rfl
    refine one_ (i := 7) (N := some 130) #[true, true, true, true, true, true, true, true, false, false, false, false, false, false] rfl rfl (by kernel_rfl) (by decide) (fun K hK => ?_)
    refine goes_ Tryd.func18 (by kernel_rfl) rfl #[.slice A0 l0.length c0, .int .i64 10] (by rfl) rfl rfl (by (try simp only [List.map_toArray, List.map_cons, List.map_nil]); first | done | rfl | (simp only [List.length_drop, List.length_take]; rfl)) ?_
    with_reducible refine (laws_vAt.calls _ _ l0 10 v10 _ (Kd.C_below HR0.out (by repeat (first | (with_reducible first | exact HB.out | apply below_alloc | apply pw_below_drewN | apply below_drew1) | exact HB.out))) HC0.out E14.out).mono ?_
    rintro e w' ⟨rfl, ⟨nd, rfl⟩⟩
    refine ⟨_, rfl, ?_⟩
    have hbw := pw_below_drewN HB.out nd
    have hnew : (w3.drewN nd).heap[g]? = some (.cells cs 5 (cs.size, cs.size + 1)) := HN.out
    have hHeld2 : (w3.drewN nd).cell? ⟨g, q, none⟩ = some (.int .u8 (rd (bytesOf y) (q : Int))) := hHeld
    clear HB HN hHeld
    generalize w3.drewN nd = w4 at hnew hbw hHeld2 ⊢
    have HB := Aside0.mk hbw
    have HN := Aside0.mk hnew
    clear hbw hnew
    refine hK.out _ _ hHeld2 (fun hHeld => ?_)
    clear hK K
    refine norm_ (a' := ?_) ?_ ?_
    rotate_left
    · show Act.put _ (some 130) _ = _
      simp only [Act.put, List.setIfInBounds_toArray, List.set_cons_zero, List.set_cons_succ, i64_w, i32_w]
      rfl
    refine pure_ (i := 8) (N := some 131) (v := ?_) (a' := ?_) #[true, true, true, true, true, true, true, true, true, false, false, false, false, false] rfl rfl (by kernel_rfl) (fun _ _ _ h => h) (Or.inl ⟨by rfl, ?_⟩) ?_ ?_
    rotate_left
    · intro w'
      go_simp
      with_reducible rfl
    rotate_left
    · simp only [Act.put, List.setIfInBounds_toArray, List.set_cons_zero, List.set_cons_succ, i64_w, i32_w]
      rfl
    refine pure_ (i := 9) (N := some 132) (v := ?_) (a' := ?_) #[true, true, true, true, true, true, true, true, true, true, false, false, false, false] rfl rfl (by kernel_rfl) (fun _ _ _ h => h) (Or.inl ⟨by rfl, ?_⟩) ?_ ?_
    rotate_left
    · intro w'
      go_simp
      with_reducible rfl
    rotate_left
    · simp only [Act.put, List.setIfInBounds_toArray, List.set_cons_zero, List.set_cons_succ, i64_w, i32_w]
      rfl
    refine pure_ (i := 10) (N := some 133) (v := ?_) (a' := ?_) #[true, true, true, true, true, true, true, true, true, true, true, false, false, false] rfl rfl (by kernel_rfl) (fun _ _ _ h => h) (Or.inl ⟨by rfl, ?_⟩) ?_ ?_
    rotate_left
    · intro w'
      go_simp
      with_reducible rfl
    rotate_left
    · simp only [Act.put, List.setIfInBounds_toArray, List.set_cons_zero, List.set_cons_succ, i64_w, i32_w]
      rfl
    refine pure_ (i := 11) (N := some 134) (v := ?_) (a' := ?_) #[true, true, true, true, true, true, true, true, true, true, true, true, false, false] rfl rfl (by kernel_rfl) (fun _ _ _ h => h) (Or.inl ⟨by rfl, ?_⟩) ?_ ?_
    rotate_left
    · intro w'
      go_simp
      with_reducible rfl
    rotate_left
    · simp only [Act.put, List.setIfInBounds_toArray, List.set_cons_zero, List.set_cons_succ, i64_w, i32_w]
      rfl
    refine pure_ (i := 12) (N := some 135) (v := ?_) (a' := ?_) #[true, true, true, true, true, true, true, true, true, true, true, true, true, false] rfl rfl (by kernel_rfl) (fun _ _ _ h => h) (Or.inl ⟨by rfl, ?_⟩) ?_ ?_
    rotate_left
    · intro w'
      go_simp
      with_reducible rfl
    rotate_left
    · simp only [Act.put, List.setIfInBounds_toArray, List.set_cons_zero, List.set_cons_succ, i64_w, i32_w]
      rfl
    refine last_ (i := 13) (N := none) #[true, true, true, true, true, true, true, true, true, true, true, true, true, true] rfl rfl (by kernel_rfl) (by decide) (fun K hK => ?_)
    have hfz : w4.frozen? ⟨g, q, none⟩ = false := by simp only [World.frozen?, HN.out]; simp; have := HF.out; omega
    refine skip_ (w1 := ?_) (by rfl) rfl ?_ ?_
    rotate_left
    · go_simp
      rfl
    refine hK.out _ _ ?_
    clear hK K
    refine done_ (by kernel_rfl) ?_
    obtain ⟨X, hX⟩ : ∃ X, X = Go.bits .xor .u8 (rd (bytesOf y) (q : Int)) (IntKind.u8.wrap (wrap64 (1 + Int.tmod v10 255))) := ⟨_, rfl⟩
    rw [← hX]
    have hC5 : Kd.C (Kd.int .u8) (w4.setCell ⟨g, q, none⟩ (.int .u8 X)) (some ⟨g, 0, none⟩) y.size ((bytesOf y).set q X) := C_of_cells (by rw [List.length_set, bytesOf_length]) (by omega) (fun j p hj => by
      by_cases hjq : j = q
      · subst hjq
        rw [List.getElem?_set_self (by rw [bytesOf_length]; exact hq2)] at hj
        obtain rfl := Option.some.inj hj
        exact World.cell?_setCell_same _ _ _ hHeld2
      · rw [List.getElem?_set_ne (fun e => hjq e.symm)] at hj
        rw [World.cell?_setCell_other _ _ _ _ (fun e => hjq (by injection e with _ e2 _; exact e2.symm))]
        have hjl : j < y.size := by
          have := (List.getElem?_eq_some_iff.1 hj).1
          rwa [bytesOf_length] at this
        have h1 := HC.out j hjl
        simp only [World.cell?, HN.out, h1]
        have h2 : rd (bytesOf y) (j : Int) = p := by
          unfold rd
          rw [Int.toNat_natCast, List.getD_eq_getElem?_getD, hj]; rfl
        rw [h2]
        rfl)
    have hbw := below_set (j := q) (v := .int .u8 X) HB.out HG.out
    rw [← hX] at hu
    clear HB HN hX hfz hHeld2
    generalize w4.setCell ⟨g, q, none⟩ (.int .u8 X) = w5 at hC5 hbw ⊢
    have HB := Aside0.mk hbw
    clear hbw
    have hcv2 := Kd.C_string (P := Tryd.prog) (A := some ⟨g, 0, none⟩) (c := cap) Tryd.underlying22 Tryd.underlying5 Tryd.underlying9 hC5
    rw [← hu] at hcv2
    clear hC5 hu
    have b_x : (x.toList == x.toList) = true := by simp
    go_wp2_with (go_at_fn 17; fail)
    refine (impl_VerifyChecksum.calls k u z false _ E15.out).mono ?_
    rintro e w' ⟨rfl, hb⟩
    have n0_ := Aside0.mk (below_step (by repeat (first | (with_reducible first | exact HB.out | apply below_alloc | apply pw_below_drewN | apply below_drew1) | exact HB.out)) hb)
    clear HB
    have HB := n0_
    clear n0_ hb
    go_wp2
    go_ret
    exact ⟨by first | rfl | (simp; done), HB.out⟩
end Go.Proofs.YtlcikalgphafaaaDoor.P
