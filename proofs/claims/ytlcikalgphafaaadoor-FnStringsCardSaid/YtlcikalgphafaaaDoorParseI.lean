/- The contract of impl.ParseInt over strconv.Atoi's and strconv.Itoa's, walked by hand. -/
import Derived.Test.YtlcikalgphafaaaDoorDoorF
import Derived.Test.YtlcikalgphafaaaDoorNumP
import Derived.Test.YtlcikalgphafaaaDoorBase
namespace Go.Proofs.YtlcikalgphafaaaDoor.P
open Go.RowKit Go.Proofs.YtlcikalgphafaaaDoorW.PrintWords Go.Proofs.YtlcikalgphafaaaDoorW.PrintLast Go.Proofs.YtlcikalgphafaaaDoorW.PrintMore
set_option linter.unusedVariables false
set_option linter.unusedSimpArgs false
/-- strconv.ErrSyntax holds an error. -/
def TabC (w : World) : Prop := ∃ tp p, w.var? Tryd.prog "strconv.ErrSyntax" = some #[.iface tp p]
theorem TabC.below {w w' : World} (h : TabC w) (hb : Below w.heap.size w w') : TabC w' := by
  obtain ⟨tp, p, h⟩ := h
  exact ⟨tp, p, Go.Joins.var_stays (g := 0) (by kernel_rfl) h hb (Nat.le_refl _)⟩
def parseR (s : ByteArray) : Int × Bool := if 7 < s.size then (0, false) else match Lib.atoi s.data.toList with
  | none => (0, false)
  | some n => if inB n (-999999) 999999 = true then (if itoaB n = s then (n, true) else (0, false)) else (0, false)
def impl_ParseInt.f (s : ByteArray) : Option (Int × Bool) := some (parseR s)
theorem inB_iff {n a b : Int} : inB n a b = true ↔ a ≤ n ∧ n ≤ b := by unfold inB; simp
set_option maxHeartbeats 4000000 in
set_option maxRecDepth 100000 in
theorem impl_ParseInt.calls (s : ByteArray) (r1 : Int) (r2 : Bool) (w : World) (h : impl_ParseInt.f s = some (r1, r2)) (HTA : Aside0 (TabA w) := by exact ⟨TabA.below HTA.out (by repeat (first | (with_reducible first | exact HB.out | apply below_alloc | apply pw_below_drewN | apply below_drew1 | refine below_set ?_ (Aside0.out (by assumption))) | exact HB.out))⟩) (HTC : Aside0 (TabC w) := by exact ⟨TabC.below HTC.out (by repeat (first | (with_reducible first | exact HB.out | apply below_alloc | apply pw_below_drewN | apply below_drew1 | refine below_set ?_ (Aside0.out (by assumption))) | exact HB.out))⟩) :
    Calls Tryd.prog 12 #[.string s] w fun e w' => e = .returned (.tuple #[.int .i64 r1, .bool r2]) ∧ Below w.heap.size w w' := by
  have hr : parseR s = (r1, r2) := Option.some.inj h
  clear h
  have e39 := enters_of Tryd.func59 (by kernel_rfl) rfl
  have e29 := enters_of Tryd.func53 (by kernel_rfl) rfl
  have e26 := enters_of Tryd.func54 (by kernel_rfl) rfl
  unfold parseR at hr
  by_cases h7 : 7 < s.size
  · rw [if_pos h7] at hr
    obtain ⟨rfl, rfl⟩ := Prod.mk.inj hr
    have c0 : decide ((7 : Int) < (s.size : Int)) = true := decide_eq_true (by omega)
    have c1 : decide (7 < s.size) = true := decide_eq_true h7
    clear hr
    go_enter Tryd.func12, Tryd.ntmps12
    go_wp2
    go_ret2
    exact ⟨rfl, Below.refl _ _⟩
  · rw [if_neg h7] at hr
    have c0 : decide ((7 : Int) < (s.size : Int)) = false := decide_eq_false (by omega)
    have c1 : decide (7 < s.size) = false := decide_eq_false h7
    have hl : s.size ≤ 18 := by omega
    cases ha : Lib.atoi s.data.toList with
    | none =>
      rw [ha] at hr
      obtain ⟨rfl, rfl⟩ := Prod.mk.inj hr
      clear hr
      obtain ⟨tp, p, hv⟩ := HTC.out
      have HV := Aside0.mk hv
      have HA := Aside0.mk ha
      have HL := Aside0.mk hl
      clear hv ha hl
      go_enter Tryd.func12, Tryd.ntmps12
      go_wp2_with (go_at_fn 59; fail)
      refine (Tryd.strconv_Atoi_err_var s HL.out HA.out tp p _ HV.out).mono ?_
      rintro e w' ⟨N, rfl, _, _, hb⟩
      have HB := Aside0.mk hb
      clear hb
      go_wp2
      go_ret2
      exact ⟨rfl, HB.out⟩
    | some n =>
      rw [ha] at hr
      have HA := Aside0.mk ha
      have HL := Aside0.mk hl
      clear ha hl
      by_cases hn : inB n (-999999) 999999 = true
      · have hr' : (if itoaB n = s then (n, true) else ((0 : Int), false)) = (r1, r2) := by simpa [hn] using hr
        have hin := inB_iff.mp hn
        have HW := Aside0.mk (show impl_within.f n (-999999) 999999 = some true by rw [within_eq, hn])
        have HI := Aside0.mk (itoa_eq n (by omega) (by omega))
        obtain ⟨t, ht⟩ : ∃ t, t = itoaB n := ⟨_, rfl⟩
        rw [← ht] at HI hr'
        clear hr hn hin ht
        by_cases hs : t = s
        · rw [if_pos hs] at hr'
          obtain ⟨rfl, rfl⟩ := Prod.mk.inj hr'
          clear hr'
          subst hs
          go_enter Tryd.func12, Tryd.ntmps12
          go_wp2_with (go_at_fn 59; fail)
          refine (Tryd.strconv_Atoi t n HL.out HA.out _).mono ?_
          rintro e w' ⟨rfl, q, rfl⟩
          have HB := Aside0.mk (bytes_below (Below.refl w.heap.size w) (Nat.le_refl _) 5 q)
          generalize Lib.bytesWorld w 5 q = w1 at HB ⊢
          go_wp2_with (go_at_fn 53; fail)
          refine (impl_within.calls n _ _ true _ HW.out).mono ?_
          rintro e w' ⟨rfl, nd, rfl⟩
          go_wp2_with (go_at_fn 54; fail)
          refine (strconv_Itoa_54.calls n t _ HI.out).mono ?_
          rintro e w' ⟨rfl, hb⟩
          have n0_ := Aside0.mk (below_step (by repeat (first | (with_reducible first | exact HB.out | apply below_alloc | apply pw_below_drewN | apply below_drew1) | exact HB.out)) hb)
          clear HB
          have HB := n0_
          clear n0_ hb
          go_wp2
          go_ret2
          exact ⟨rfl, HB.out⟩
        · rw [if_neg hs] at hr'
          obtain ⟨rfl, rfl⟩ := Prod.mk.inj hr'
          clear hr'
          have d0 : ¬ t.toList = s.toList := fun q => hs (by rw [ByteArray.toList_eq, ByteArray.toList_eq] at q; exact ba_ext q)
          have d1 : (t.toList == s.toList) = false := beq_eq_false_iff_ne.mpr d0
          have d2 : (t.toList != s.toList) = true := bne_iff_ne.mpr d0
          go_enter Tryd.func12, Tryd.ntmps12
          go_wp2_with (go_at_fn 59; fail)
          refine (Tryd.strconv_Atoi s n HL.out HA.out _).mono ?_
          rintro e w' ⟨rfl, q, rfl⟩
          have HB := Aside0.mk (bytes_below (Below.refl w.heap.size w) (Nat.le_refl _) 5 q)
          generalize Lib.bytesWorld w 5 q = w1 at HB ⊢
          go_wp2_with (go_at_fn 53; fail)
          refine (impl_within.calls n _ _ true _ HW.out).mono ?_
          rintro e w' ⟨rfl, nd, rfl⟩
          go_wp2_with (go_at_fn 54; fail)
          refine (strconv_Itoa_54.calls n t _ HI.out).mono ?_
          rintro e w' ⟨rfl, hb⟩
          have n0_ := Aside0.mk (below_step (by repeat (first | (with_reducible first | exact HB.out | apply below_alloc | apply pw_below_drewN | apply below_drew1) | exact HB.out)) hb)
          clear HB
          have HB := n0_
          clear n0_ hb
          go_wp2
          go_ret2
          exact ⟨rfl, HB.out⟩
      · have hr' : ((0 : Int), false) = (r1, r2) := by simpa [hn] using hr
        obtain ⟨rfl, rfl⟩ := Prod.mk.inj hr'
        have HW := Aside0.mk (show impl_within.f n (-999999) 999999 = some false by rw [within_eq]; simpa using hn)
        clear hr hr' hn
        go_enter Tryd.func12, Tryd.ntmps12
        go_wp2_with (go_at_fn 59; fail)
        refine (Tryd.strconv_Atoi s n HL.out HA.out _).mono ?_
        rintro e w' ⟨rfl, q, rfl⟩
        have HB := Aside0.mk (bytes_below (Below.refl w.heap.size w) (Nat.le_refl _) 5 q)
        generalize Lib.bytesWorld w 5 q = w1 at HB ⊢
        go_wp2_with (go_at_fn 53; fail)
        refine (impl_within.calls n _ _ false _ HW.out).mono ?_
        rintro e w' ⟨rfl, nd, rfl⟩
        go_wp2
        go_ret2
        exact ⟨rfl, by repeat (first | (with_reducible first | exact HB.out | apply below_alloc | apply pw_below_drewN | apply below_drew1) | exact HB.out)⟩
end Go.Proofs.YtlcikalgphafaaaDoor.P
