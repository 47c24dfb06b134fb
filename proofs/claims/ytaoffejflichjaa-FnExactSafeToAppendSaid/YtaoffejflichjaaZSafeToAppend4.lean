/- The texts YtaoffejflichjaaPx10, YtaoffejflichjaaPx11, YtaoffejflichjaaOpen, YtaoffejflichjaaStFnExactSafeToAppend, YtaoffejflichjaaWins, YtaoffejflichjaaWatched, YtaoffejflichjaaSm, YtaoffejflichjaaOv, YtaoffejflichjaaTrodP, YtaoffejflichjaaPureFnExactSafeToAppend, YtaoffejflichjaaRowFnExactSafeToAppend, without what the row does not need: words for rows in memory, contracts of functions, plain lemmas, the row. -/
import Derived.Test.YtaoffejflichjaaZSafeToAppend3
import Derived.ProofKit
import Derived.Lib.SmallJoins
import Derived.Deep.Slices
import Derived.Deep.Strs
import Derived.WalkKit
import Derived.Test.YtaoffejflichjaaRows
import Derived.OpenShut
import Derived.ShutString
import Derived.ChangeOld
import Derived.Below
import Derived.SizedLaws
section
namespace Go.Proofs.Ytaoffejflichjaa.P
open Go.RowKit Go.Proofs.YtaoffejflichjaaW.PrintWords Go.Proofs.YtaoffejflichjaaW.PrintLast Go.Proofs.YtaoffejflichjaaW.PrintMore
set_option linter.unusedVariables false
set_option linter.unusedSimpArgs false
mutual
def impl_SafeToAppend.j0 : Nat → List (S33) → Int → Bool → Option (Int × Bool)
  | 0, _, _, _ => none
  | k + 1, x1, x2, x20 => if x20 = true then (some (0, false)) else (if 0 ≤ x2 then (if x2 < (x1.length : Int) then (impl_SafeToAppend.l0 k x1 x2 (wrap64 (((rd_T33 x1 x2).f3) - ((rd_T33 x1 x2).f2)))) else (none)) else (none))
def impl_SafeToAppend.l0 : Nat → List (S33) → Int → Int → Option (Int × Bool)
  | 0, _, _, _ => none
  | k + 1, x1, x2, x8 => (impl_trodden.f x1 x2 x8).bind fun t302 => (if (t302.length : Int) > 0 then (impl_SafeToAppend.l0 k x1 x2 (wrap64 (x8 - 1))) else (some (x8, true)))
end
def impl_SafeToAppend.f (k : Nat) (l0_0 : List (List Int)) (l1 : List (S33)) (a2 : Int) : Option (Int × Bool) := (impl_areWatched.f k l0_0 l1).bind fun t298 => (if t298 = true then ((impl_within.f a2 0 (wrap64 ((l1.length : Int) - 1))).bind fun t299 => (impl_SafeToAppend.j0 k l1 a2 (!t299))) else (impl_SafeToAppend.j0 k l1 a2 true))
set_option maxHeartbeats 8000000 in
set_option maxRecDepth 100000 in
theorem impl_SafeToAppend.calls (k : Nat) (A0_0 : Option Addr) (c0_0 : Nat) (l0_0 : List (List Int)) (A1 : Option Addr) (c1 : Nat) (l1 : List (S33)) (a2 : Int) (r1 : Int) (r2 : Bool) (w : World) (hr0_0 : Kd.C (Kd.slice 5 (Kd.int .u8)) w A0_0 l0_0.length l0_0) (hc0_0 : l0_0.length ≤ c0_0) (hr1 : Kd.C k33 w A1 l1.length l1) (hc1 : l1.length ≤ c1) (h : impl_SafeToAppend.f k l0_0 l1 a2 = some (r1, r2)) :
    Calls Try.prog 25 #[.agg #[.slice A0_0 l0_0.length c0_0], .slice A1 l1.length c1, .int .i64 a2] w fun e w' => e = .returned (.tuple #[.int .i64 r1, .bool r2]) ∧ Below w.heap.size w w' := by
  have hu31 := Try.underlying31
  have HR0_0 := Aside0.mk hr0_0
  have HC0_0 := Aside0.mk hc0_0
  clear hr0_0 hc0_0
  have HR1 := Aside0.mk hr1
  have HC1 := Aside0.mk hc1
  clear hr1 hc1
  have HB := Aside0.mk (Below.refl w.heap.size w)
  have H : ((impl_areWatched.f k l0_0 l1).bind fun t298 => (if t298 = true then ((impl_within.f a2 0 (wrap64 ((l1.length : Int) - 1))).bind fun t299 => (impl_SafeToAppend.j0 k l1 a2 (!t299))) else (impl_SafeToAppend.j0 k l1 a2 true))) = some (r1, r2) := h
  clear h
  have HC4 := Aside0.mk H
  clear H
  go_enter Try.func25, Try.ntmps25
  go_upto_region 1 with (first | ((with_reducible refine gate_dst (N := 3) rfl ?_); (try (refine gate_guard (by rfl) ?_; dsimp only)); refine box_event ?hg (N := 3) ?hd (cs := #[.slice A0_0 l0_0.length c0_0]) (t := 31) ?hr ?_; (case hd => rfl); (case hg => rfl); (case hr => first | (go_simp; done) | (go_simp; rfl)); intro gb297 hg w5 hbox hb; have n0_ := Aside0.mk (below_step (by repeat (first | (with_reducible first | exact HB.out | apply below_alloc | apply pw_below_drewN | apply below_drew1) | exact HB.out)) hb); have n1_ := Aside0.mk (hbox); have n2_ := Aside0.mk ((by rw [hg]; exact (below_size (by repeat (first | (with_reducible first | exact HB.out | apply below_alloc | apply pw_below_drewN | apply below_drew1) | exact HB.out))) : w.heap.size ≤ gb297)); have n3_ := Aside0.mk ((by rw [hg]; exact (below_size (by repeat (first | (with_reducible first | exact HB.out | apply below_alloc | apply pw_below_drewN | apply below_drew1) | exact HB.out))) : w.heap.size ≤ gb297)); clear HB; have HB := n0_; have BK297 := n1_; have GW297 := n2_; have GE297 := n3_; clear n0_ n1_ n2_ n3_; clear hb hbox hg))
  repeat (go_quiet (first | ((with_reducible refine gate_dst (N := 3) rfl ?_); (try (refine gate_guard (by rfl) ?_; dsimp only)); refine box_event ?hg (N := 3) ?hd (cs := #[.slice A0_0 l0_0.length c0_0]) (t := 31) ?hr ?_; (case hd => rfl); (case hg => rfl); (case hr => first | (go_simp; done) | (go_simp; rfl)); intro gb297 hg w5 hbox hb; have n0_ := Aside0.mk (below_step (by repeat (first | (with_reducible first | exact HB.out | apply below_alloc | apply pw_below_drewN | apply below_drew1) | exact HB.out)) hb); have n1_ := Aside0.mk (hbox); have n2_ := Aside0.mk ((by rw [hg]; exact (below_size (by repeat (first | (with_reducible first | exact HB.out | apply below_alloc | apply pw_below_drewN | apply below_drew1) | exact HB.out))) : w.heap.size ≤ gb297)); have n3_ := Aside0.mk ((by rw [hg]; exact (below_size (by repeat (first | (with_reducible first | exact HB.out | apply below_alloc | apply pw_below_drewN | apply below_drew1) | exact HB.out))) : w.heap.size ≤ gb297)); clear HB; have HB := n0_; have BK297 := n1_; have GW297 := n2_; have GE297 := n3_; clear n0_ n1_ n2_ n3_; clear hb hbox hg)); go_upto_region 1 with (first | ((with_reducible refine gate_dst (N := 3) rfl ?_); (try (refine gate_guard (by rfl) ?_; dsimp only)); refine box_event ?hg (N := 3) ?hd (cs := #[.slice A0_0 l0_0.length c0_0]) (t := 31) ?hr ?_; (case hd => rfl); (case hg => rfl); (case hr => first | (go_simp; done) | (go_simp; rfl)); intro gb297 hg w5 hbox hb; have n0_ := Aside0.mk (below_step (by repeat (first | (with_reducible first | exact HB.out | apply below_alloc | apply pw_below_drewN | apply below_drew1) | exact HB.out)) hb); have n1_ := Aside0.mk (hbox); have n2_ := Aside0.mk ((by rw [hg]; exact (below_size (by repeat (first | (with_reducible first | exact HB.out | apply below_alloc | apply pw_below_drewN | apply below_drew1) | exact HB.out))) : w.heap.size ≤ gb297)); have n3_ := Aside0.mk ((by rw [hg]; exact (below_size (by repeat (first | (with_reducible first | exact HB.out | apply below_alloc | apply pw_below_drewN | apply below_drew1) | exact HB.out))) : w.heap.size ≤ gb297)); clear HB; have HB := n0_; have BK297 := n1_; have GW297 := n2_; have GE297 := n3_; clear n0_ n1_ n2_ n3_; clear hb hbox hg)))
  (try simp only [Act.put, List.setIfInBounds_toArray, List.set_cons_zero, List.set_cons_succ])
  go_cut [20] (fun v20 wc => ∃ (kq : Nat) (x20_3 : Bool), v20 = .bool x20_3 ∧ Aside0 (impl_SafeToAppend.j0 kq l1 a2 x20_3 = some (r1, r2)) ∧ Aside0 (kq ≤ k) ∧ Aside0 (wc.heap[gb297]? = some (.cells #[(.slice A0_0 l0_0.length c0_0)] 31 (0, 0))) ∧ Aside0 (Below w.heap.size w wc))
  case first =>
    have H := HC4.out
    clear HC4
    replace H := Option.bind_eq_some_iff.mp H
    obtain ⟨t298, A60, H⟩ := H
    replace H : (if t298 = true then ((impl_within.f a2 0 (wrap64 ((l1.length : Int) - 1))).bind fun t299 => (impl_SafeToAppend.j0 k l1 a2 (!t299))) else (impl_SafeToAppend.j0 k l1 a2 true)) = some (r1, r2) := H
    have A6 := Aside0.mk A60
    clear A60
    by_cases c7 : t298 = true
    · subst c7
      have H1 : ((impl_within.f a2 0 (wrap64 ((l1.length : Int) - 1))).bind fun t299 => (impl_SafeToAppend.j0 k l1 a2 (!t299))) = some (r1, r2) := by rw [if_pos rfl] at H; exact H
      clear H
      have H := H1
      clear H1
      replace H := Option.bind_eq_some_iff.mp H
      obtain ⟨t299, A80, H⟩ := H
      replace H : (impl_SafeToAppend.j0 k l1 a2 (!t299)) = some (r1, r2) := H
      have A8 := Aside0.mk A80
      clear A80
      have H' := Aside0.mk H
      clear H
      have hcz9_0 : w5.cell? ⟨gb297, 0, none⟩ = some (.slice A0_0 l0_0.length c0_0) := (blk_cell BK297.out 0).trans rfl
      have hfz9_0 := blk_frozen BK297.out 0
      go_wp2_with (first | (go_at_call 64; (with_reducible refine (impl_areWatched.calls k _ _ l0_0 _ _ l1 true _ ?side1 ?side2 ?side3 ?side4 A6.out).mono ?_); (case side1 => repeat (first | exact (Kd.C_below HR0_0.out HB.out) | (with_reducible refine Kd.C_alloc ?_ _) | (with_reducible refine Kd.C_drewN ?_ _) | (with_reducible refine Kd.C_drew ?_))); (case side2 => exact HC0_0.out); (case side3 => repeat (first | exact (Kd.C_below HR1.out HB.out) | (with_reducible refine Kd.C_alloc ?_ _) | (with_reducible refine Kd.C_drewN ?_ _) | (with_reducible refine Kd.C_drew ?_))); (case side4 => exact HC1.out); rintro e w10 ⟨rfl, hb⟩; have n0_ := Aside0.mk (blk_below (g := gb297) (o := .cells #[.slice A0_0 l0_0.length c0_0] 31 (0, 0)) (by (with_reducible repeat (first | refine blk_drewN ?_ _ | refine blk_drew ?_ | refine blk_alloc ?_ _)); exact BK297.out) hb); have n1_ := Aside0.mk (below_step (by repeat (first | (with_reducible first | exact HB.out | apply below_alloc | apply pw_below_drewN | apply below_drew1 | refine below_set ?_ GE297.out) | exact HB.out)) hb); clear BK297; clear HB; have BK297 := n0_; have HB := n1_; clear n0_ n1_; (try clear hb); (try clear hb2); (try clear hk); (try clear hi)) | (go_at_call 65; (with_reducible refine (impl_within.calls a2 0 (wrap64 ((l1.length : Int) - 1)) t299 _ A8.out).mono ?_); rintro e w' ⟨rfl, ⟨nd, rfl⟩⟩; (try first | exact ⟨rfl, _, World.drewN_drewN _ _ _⟩ | exact ⟨rfl, _, Eq.trans (World.drewN_drewN _ _ _) (congrArg (World.drewN _) (Nat.add_assoc _ _ _))⟩)))
      repeat (go_quiet (first | (go_at_call 64; (with_reducible refine (impl_areWatched.calls k _ _ l0_0 _ _ l1 true _ ?side1 ?side2 ?side3 ?side4 A6.out).mono ?_); (case side1 => repeat (first | exact (Kd.C_below HR0_0.out HB.out) | (with_reducible refine Kd.C_alloc ?_ _) | (with_reducible refine Kd.C_drewN ?_ _) | (with_reducible refine Kd.C_drew ?_))); (case side2 => exact HC0_0.out); (case side3 => repeat (first | exact (Kd.C_below HR1.out HB.out) | (with_reducible refine Kd.C_alloc ?_ _) | (with_reducible refine Kd.C_drewN ?_ _) | (with_reducible refine Kd.C_drew ?_))); (case side4 => exact HC1.out); rintro e w10 ⟨rfl, hb⟩; have n0_ := Aside0.mk (blk_below (g := gb297) (o := .cells #[.slice A0_0 l0_0.length c0_0] 31 (0, 0)) (by (with_reducible repeat (first | refine blk_drewN ?_ _ | refine blk_drew ?_ | refine blk_alloc ?_ _)); exact BK297.out) hb); have n1_ := Aside0.mk (below_step (by repeat (first | (with_reducible first | exact HB.out | apply below_alloc | apply pw_below_drewN | apply below_drew1 | refine below_set ?_ GE297.out) | exact HB.out)) hb); clear BK297; clear HB; have BK297 := n0_; have HB := n1_; clear n0_ n1_; (try clear hb); (try clear hb2); (try clear hk); (try clear hi)) | (go_at_call 65; (with_reducible refine (impl_within.calls a2 0 (wrap64 ((l1.length : Int) - 1)) t299 _ A8.out).mono ?_); rintro e w' ⟨rfl, ⟨nd, rfl⟩⟩; (try first | exact ⟨rfl, _, World.drewN_drewN _ _ _⟩ | exact ⟨rfl, _, Eq.trans (World.drewN_drewN _ _ _) (congrArg (World.drewN _) (Nat.add_assoc _ _ _))⟩))); try go_wp2_with (first | (go_at_call 64; (with_reducible refine (impl_areWatched.calls k _ _ l0_0 _ _ l1 true _ ?side1 ?side2 ?side3 ?side4 A6.out).mono ?_); (case side1 => repeat (first | exact (Kd.C_below HR0_0.out HB.out) | (with_reducible refine Kd.C_alloc ?_ _) | (with_reducible refine Kd.C_drewN ?_ _) | (with_reducible refine Kd.C_drew ?_))); (case side2 => exact HC0_0.out); (case side3 => repeat (first | exact (Kd.C_below HR1.out HB.out) | (with_reducible refine Kd.C_alloc ?_ _) | (with_reducible refine Kd.C_drewN ?_ _) | (with_reducible refine Kd.C_drew ?_))); (case side4 => exact HC1.out); rintro e w10 ⟨rfl, hb⟩; have n0_ := Aside0.mk (blk_below (g := gb297) (o := .cells #[.slice A0_0 l0_0.length c0_0] 31 (0, 0)) (by (with_reducible repeat (first | refine blk_drewN ?_ _ | refine blk_drew ?_ | refine blk_alloc ?_ _)); exact BK297.out) hb); have n1_ := Aside0.mk (below_step (by repeat (first | (with_reducible first | exact HB.out | apply below_alloc | apply pw_below_drewN | apply below_drew1 | refine below_set ?_ GE297.out) | exact HB.out)) hb); clear BK297; clear HB; have BK297 := n0_; have HB := n1_; clear n0_ n1_; (try clear hb); (try clear hb2); (try clear hk); (try clear hi)) | (go_at_call 65; (with_reducible refine (impl_within.calls a2 0 (wrap64 ((l1.length : Int) - 1)) t299 _ A8.out).mono ?_); rintro e w' ⟨rfl, ⟨nd, rfl⟩⟩; (try first | exact ⟨rfl, _, World.drewN_drewN _ _ _⟩ | exact ⟨rfl, _, Eq.trans (World.drewN_drewN _ _ _) (congrArg (World.drewN _) (Nat.add_assoc _ _ _))⟩))))
      go_meet
      case rel => exact ⟨_, (!t299), (by first | rfl | (simp; done) | (simp [*]; done)), H', ⟨by first | omega | exact Nat.le_refl _⟩, ⟨by (with_reducible repeat (first | refine blk_drewN ?_ _ | refine blk_drew ?_ | refine blk_alloc ?_ _)); exact BK297.out⟩, ⟨by repeat (first | (with_reducible first | exact HB.out | apply below_alloc | apply pw_below_drewN | apply below_drew1 | refine below_set ?_ GE297.out) | exact HB.out)⟩⟩
    · replace c7 := Bool.eq_false_iff.mpr c7
      subst c7
      have H1 : (impl_SafeToAppend.j0 k l1 a2 true) = some (r1, r2) := by rw [if_neg (show ¬ (false = true) by decide)] at H; exact H
      clear H
      have H := H1
      clear H1
      have H' := Aside0.mk H
      clear H
      have hcz11_0 : w5.cell? ⟨gb297, 0, none⟩ = some (.slice A0_0 l0_0.length c0_0) := (blk_cell BK297.out 0).trans rfl
      have hfz11_0 := blk_frozen BK297.out 0
      go_wp2_with (first | (go_at_call 64; (with_reducible refine (impl_areWatched.calls k _ _ l0_0 _ _ l1 false _ ?side1 ?side2 ?side3 ?side4 A6.out).mono ?_); (case side1 => repeat (first | exact (Kd.C_below HR0_0.out HB.out) | (with_reducible refine Kd.C_alloc ?_ _) | (with_reducible refine Kd.C_drewN ?_ _) | (with_reducible refine Kd.C_drew ?_))); (case side2 => exact HC0_0.out); (case side3 => repeat (first | exact (Kd.C_below HR1.out HB.out) | (with_reducible refine Kd.C_alloc ?_ _) | (with_reducible refine Kd.C_drewN ?_ _) | (with_reducible refine Kd.C_drew ?_))); (case side4 => exact HC1.out); rintro e w12 ⟨rfl, hb⟩; have n0_ := Aside0.mk (blk_below (g := gb297) (o := .cells #[.slice A0_0 l0_0.length c0_0] 31 (0, 0)) (by (with_reducible repeat (first | refine blk_drewN ?_ _ | refine blk_drew ?_ | refine blk_alloc ?_ _)); exact BK297.out) hb); have n1_ := Aside0.mk (below_step (by repeat (first | (with_reducible first | exact HB.out | apply below_alloc | apply pw_below_drewN | apply below_drew1 | refine below_set ?_ GE297.out) | exact HB.out)) hb); clear BK297; clear HB; have BK297 := n0_; have HB := n1_; clear n0_ n1_; (try clear hb); (try clear hb2); (try clear hk); (try clear hi)))
      repeat (go_quiet (first | (go_at_call 64; (with_reducible refine (impl_areWatched.calls k _ _ l0_0 _ _ l1 false _ ?side1 ?side2 ?side3 ?side4 A6.out).mono ?_); (case side1 => repeat (first | exact (Kd.C_below HR0_0.out HB.out) | (with_reducible refine Kd.C_alloc ?_ _) | (with_reducible refine Kd.C_drewN ?_ _) | (with_reducible refine Kd.C_drew ?_))); (case side2 => exact HC0_0.out); (case side3 => repeat (first | exact (Kd.C_below HR1.out HB.out) | (with_reducible refine Kd.C_alloc ?_ _) | (with_reducible refine Kd.C_drewN ?_ _) | (with_reducible refine Kd.C_drew ?_))); (case side4 => exact HC1.out); rintro e w12 ⟨rfl, hb⟩; have n0_ := Aside0.mk (blk_below (g := gb297) (o := .cells #[.slice A0_0 l0_0.length c0_0] 31 (0, 0)) (by (with_reducible repeat (first | refine blk_drewN ?_ _ | refine blk_drew ?_ | refine blk_alloc ?_ _)); exact BK297.out) hb); have n1_ := Aside0.mk (below_step (by repeat (first | (with_reducible first | exact HB.out | apply below_alloc | apply pw_below_drewN | apply below_drew1 | refine below_set ?_ GE297.out) | exact HB.out)) hb); clear BK297; clear HB; have BK297 := n0_; have HB := n1_; clear n0_ n1_; (try clear hb); (try clear hb2); (try clear hk); (try clear hi))); try go_wp2_with (first | (go_at_call 64; (with_reducible refine (impl_areWatched.calls k _ _ l0_0 _ _ l1 false _ ?side1 ?side2 ?side3 ?side4 A6.out).mono ?_); (case side1 => repeat (first | exact (Kd.C_below HR0_0.out HB.out) | (with_reducible refine Kd.C_alloc ?_ _) | (with_reducible refine Kd.C_drewN ?_ _) | (with_reducible refine Kd.C_drew ?_))); (case side2 => exact HC0_0.out); (case side3 => repeat (first | exact (Kd.C_below HR1.out HB.out) | (with_reducible refine Kd.C_alloc ?_ _) | (with_reducible refine Kd.C_drewN ?_ _) | (with_reducible refine Kd.C_drew ?_))); (case side4 => exact HC1.out); rintro e w12 ⟨rfl, hb⟩; have n0_ := Aside0.mk (blk_below (g := gb297) (o := .cells #[.slice A0_0 l0_0.length c0_0] 31 (0, 0)) (by (with_reducible repeat (first | refine blk_drewN ?_ _ | refine blk_drew ?_ | refine blk_alloc ?_ _)); exact BK297.out) hb); have n1_ := Aside0.mk (below_step (by repeat (first | (with_reducible first | exact HB.out | apply below_alloc | apply pw_below_drewN | apply below_drew1 | refine below_set ?_ GE297.out) | exact HB.out)) hb); clear BK297; clear HB; have BK297 := n0_; have HB := n1_; clear n0_ n1_; (try clear hb); (try clear hb2); (try clear hk); (try clear hi))))
      go_meet
      case rel => exact ⟨_, (true), (by first | rfl | (simp; done) | (simp [*]; done)), H', ⟨by first | omega | exact Nat.le_refl _⟩, ⟨by (with_reducible repeat (first | refine blk_drewN ?_ _ | refine blk_drew ?_ | refine blk_alloc ?_ _)); exact BK297.out⟩, ⟨by repeat (first | (with_reducible first | exact HB.out | apply below_alloc | apply pw_below_drewN | apply below_drew1 | refine below_set ?_ GE297.out) | exact HB.out)⟩⟩
  case rest =>
    clear HC4
    try clear c1
    try clear c2
    try clear p2
    try clear p6
    try clear c7
    try clear hcz11_0
    try clear hcz9_0
    try clear hfz11_0
    try clear hfz9_0
    obtain ⟨kq, x20_3, rfl, HA, HJ3, BK297, HB⟩ := hcut
    cases kq with
    | zero => exact absurd HA.out (by simp [impl_SafeToAppend.j0])
    | succ kj3 =>
      have H := HA.out
      clear HA
      simp only [impl_SafeToAppend.j0] at H
      by_cases c13 : x20_3 = true
      · subst c13
        have H1 : (some (0, false)) = some (r1, r2) := by rw [if_pos rfl] at H; exact H
        clear H
        have H := H1
        clear H1
        simp only [Option.some.injEq, Prod.mk.injEq] at H
        obtain ⟨rfl, rfl⟩ := H
        go_wp2
        repeat (go_quiet (fail); try go_wp2)
        go_ret2
        exact ⟨by first | rfl | (simp [errW_none, errW_some] <;> rfl) | (simp [*, errW_none, errW_some] <;> rfl), by repeat (first | (with_reducible first | exact HB.out | apply below_alloc | apply pw_below_drewN | apply below_drew1 | refine below_set ?_ GE297.out) | exact HB.out)⟩
      · replace c13 := Bool.eq_false_iff.mpr c13
        subst c13
        have H1 : (if 0 ≤ a2 then (if a2 < (l1.length : Int) then (impl_SafeToAppend.l0 kj3 l1 a2 (wrap64 (((rd_T33 l1 a2).f3) - ((rd_T33 l1 a2).f2)))) else (none)) else (none)) = some (r1, r2) := by rw [if_neg (show ¬ (false = true) by decide)] at H; exact H
        clear H
        have H := H1
        clear H1
        by_cases c14 : 0 ≤ a2
        · rw [if_pos c14] at H
          have c14b0 : decide (0 ≤ a2) = true := decide_eq_true c14
          clear c14
          by_cases c15 : a2 < (l1.length : Int)
          · rw [if_pos c15] at H
            have c15b0 : decide (a2 < (l1.length : Int)) = true := decide_eq_true c15
            clear c15
            have H' := Aside0.mk H
            clear H
            have p300 : 0 ≤ (a2 : Int) := of_decide_eq_true (by first | (with_reducible assumption) | assumption)
            have q300 : a2 < (l1.length : Int) := of_decide_eq_true (by first | (with_reducible assumption) | assumption)
            obtain ⟨ad300, e300, hx300_0, hx300_1, hx300_2, hx300_3⟩ := at_T33 HR1.out a2 p300 q300
            cases e300
            replace hx300_0 := (HB.out.cell (World.block_lt_of_cell? w _ hx300_0)).trans hx300_0
            replace hx300_1 := (HB.out.cell (World.block_lt_of_cell? w _ hx300_1)).trans hx300_1
            replace hx300_2 := (HB.out.cell (World.block_lt_of_cell? w _ hx300_2)).trans hx300_2
            replace hx300_3 := (HB.out.cell (World.block_lt_of_cell? w _ hx300_3)).trans hx300_3
            replace p300 := eq_true p300
            replace q300 := eq_true q300
            have p301 : 0 ≤ (a2 : Int) := of_decide_eq_true (by first | (with_reducible assumption) | assumption)
            have q301 : a2 < (l1.length : Int) := of_decide_eq_true (by first | (with_reducible assumption) | assumption)
            obtain ⟨ad301, e301, hx301_0, hx301_1, hx301_2, hx301_3⟩ := at_T33 HR1.out a2 p301 q301
            obtain rfl : ad300 = ad301 := (by injection e301)
            replace hx301_0 := (HB.out.cell (World.block_lt_of_cell? w _ hx301_0)).trans hx301_0
            replace hx301_1 := (HB.out.cell (World.block_lt_of_cell? w _ hx301_1)).trans hx301_1
            replace hx301_2 := (HB.out.cell (World.block_lt_of_cell? w _ hx301_2)).trans hx301_2
            replace hx301_3 := (HB.out.cell (World.block_lt_of_cell? w _ hx301_3)).trans hx301_3
            replace p301 := eq_true p301
            replace q301 := eq_true q301
            go_wp2
            repeat (go_quiet (fail); try go_wp2)
            go_loopg [8] kj3 (fun kq v8 w' => ∃ (x8_2 : Int), v8 = .int .i64 x8_2 ∧ Aside0 (impl_SafeToAppend.l0 kq l1 a2 x8_2 = some (r1, r2)) ∧ Aside0 (kq ≤ kj3) ∧ Aside0 (w'.heap[gb297]? = some (.cells #[(.slice A0_0 l0_0.length c0_0)] 31 (0, 0))) ∧ Aside0 (Below w.heap.size w w'))
            case atStart => exact ⟨(wrap64 (((rd_T33 l1 a2).f3) - ((rd_T33 l1 a2).f2))), (by first | rfl | (simp; done) | (simp [*]; done)), H', ⟨Nat.le_refl _⟩, ⟨by (with_reducible repeat (first | refine blk_drewN ?_ _ | refine blk_drew ?_ | refine blk_alloc ?_ _)); exact BK297.out⟩, ⟨by repeat (first | (with_reducible first | exact HB.out | apply below_alloc | apply pw_below_drewN | apply below_drew1 | refine below_set ?_ GE297.out) | exact HB.out)⟩⟩
            case round =>
              clear H'
              try clear c1
              try clear c2
              try clear p2
              try clear p3
              try clear q3
              try clear hx3
              try clear p6
              try clear c7
              try clear c13
              try clear c14
              try clear c14b0
              try clear c15
              try clear c15b0
              try clear hcz11_0
              try clear hcz9_0
              try clear hfz11_0
              try clear hfz9_0
              try clear hx300_0
              try clear hx300_1
              try clear hx300_2
              try clear hx300_3
              try clear hx301_0
              try clear hx301_1
              try clear hx301_2
              try clear hx301_3
              try clear p2
              try clear p300
              try clear p301
              try clear p6
              try clear q300
              try clear q301
              obtain ⟨x8_2, rfl, HA, HK2, BK297, HB⟩ := hrel
              cases gk with
              | zero => exact absurd HA.out (by simp [impl_SafeToAppend.l0])
              | succ k2 =>
                have H := HA.out
                clear HA
                simp only [impl_SafeToAppend.l0] at H
                replace H := Option.bind_eq_some_iff.mp H
                obtain ⟨t302, A160, H⟩ := H
                replace H : (if (t302.length : Int) > 0 then (impl_SafeToAppend.l0 k2 l1 a2 (wrap64 (x8_2 - 1))) else (some (x8_2, true))) = some (r1, r2) := H
                have A16 := Aside0.mk A160
                clear A160
                by_cases c17 : (t302.length : Int) > 0
                · rw [if_pos c17] at H
                  have c17b0 : decide (0 < (t302.length : Int)) = true := decide_eq_true c17
                  have c17b1 : decide (0 < t302.length) = true := decide_eq_true (by omega)
                  clear c17
                  have H' := Aside0.mk H
                  clear H
                  go_wp2_with (first | (go_at_call 66; (with_reducible refine (impl_trodden.calls _ _ l1 a2 x8_2 t302 _ ?side1 ?side2 A16.out).mono ?_); (case side1 => repeat (first | exact (Kd.C_below HR1.out HB.out) | (with_reducible refine Kd.C_alloc ?_ _) | (with_reducible refine Kd.C_drewN ?_ _) | (with_reducible refine Kd.C_drew ?_))); (case side2 => exact HC1.out); rintro e w18 ⟨v303, rfl, ho0, hb⟩; have n0_ := Aside0.mk (Kd.R_lower ho0 (below_size (by repeat (first | (with_reducible first | exact HB.out | apply below_alloc | apply pw_below_drewN | apply below_drew1 | refine below_set ?_ GE297.out) | exact HB.out)))); have n1_ := Aside0.mk (blk_below (g := gb297) (o := .cells #[.slice A0_0 l0_0.length c0_0] 31 (0, 0)) (by (with_reducible repeat (first | refine blk_drewN ?_ _ | refine blk_drew ?_ | refine blk_alloc ?_ _)); exact BK297.out) hb); have n2_ := Aside0.mk (below_step (by repeat (first | (with_reducible first | exact HB.out | apply below_alloc | apply pw_below_drewN | apply below_drew1 | refine below_set ?_ GE297.out) | exact HB.out)) hb); clear BK297; clear HB; have HO304 := n0_; have BK297 := n1_; have HB := n2_; clear n0_ n1_ n2_; (try clear hb); (try clear hb2); (try clear hk); (try clear hi); (try clear ho0); obtain ⟨Ao19, co19, eo19⟩ := Kd.R_slice HO304.out; subst eo19))
                  repeat (go_quiet (first | (go_at_call 66; (with_reducible refine (impl_trodden.calls _ _ l1 a2 x8_2 t302 _ ?side1 ?side2 A16.out).mono ?_); (case side1 => repeat (first | exact (Kd.C_below HR1.out HB.out) | (with_reducible refine Kd.C_alloc ?_ _) | (with_reducible refine Kd.C_drewN ?_ _) | (with_reducible refine Kd.C_drew ?_))); (case side2 => exact HC1.out); rintro e w18 ⟨v303, rfl, ho0, hb⟩; have n0_ := Aside0.mk (Kd.R_lower ho0 (below_size (by repeat (first | (with_reducible first | exact HB.out | apply below_alloc | apply pw_below_drewN | apply below_drew1 | refine below_set ?_ GE297.out) | exact HB.out)))); have n1_ := Aside0.mk (blk_below (g := gb297) (o := .cells #[.slice A0_0 l0_0.length c0_0] 31 (0, 0)) (by (with_reducible repeat (first | refine blk_drewN ?_ _ | refine blk_drew ?_ | refine blk_alloc ?_ _)); exact BK297.out) hb); have n2_ := Aside0.mk (below_step (by repeat (first | (with_reducible first | exact HB.out | apply below_alloc | apply pw_below_drewN | apply below_drew1 | refine below_set ?_ GE297.out) | exact HB.out)) hb); clear BK297; clear HB; have HO304 := n0_; have BK297 := n1_; have HB := n2_; clear n0_ n1_ n2_; (try clear hb); (try clear hb2); (try clear hk); (try clear hi); (try clear ho0); obtain ⟨Ao19, co19, eo19⟩ := Kd.R_slice HO304.out; subst eo19)); try go_wp2_with (first | (go_at_call 66; (with_reducible refine (impl_trodden.calls _ _ l1 a2 x8_2 t302 _ ?side1 ?side2 A16.out).mono ?_); (case side1 => repeat (first | exact (Kd.C_below HR1.out HB.out) | (with_reducible refine Kd.C_alloc ?_ _) | (with_reducible refine Kd.C_drewN ?_ _) | (with_reducible refine Kd.C_drew ?_))); (case side2 => exact HC1.out); rintro e w18 ⟨v303, rfl, ho0, hb⟩; have n0_ := Aside0.mk (Kd.R_lower ho0 (below_size (by repeat (first | (with_reducible first | exact HB.out | apply below_alloc | apply pw_below_drewN | apply below_drew1 | refine below_set ?_ GE297.out) | exact HB.out)))); have n1_ := Aside0.mk (blk_below (g := gb297) (o := .cells #[.slice A0_0 l0_0.length c0_0] 31 (0, 0)) (by (with_reducible repeat (first | refine blk_drewN ?_ _ | refine blk_drew ?_ | refine blk_alloc ?_ _)); exact BK297.out) hb); have n2_ := Aside0.mk (below_step (by repeat (first | (with_reducible first | exact HB.out | apply below_alloc | apply pw_below_drewN | apply below_drew1 | refine below_set ?_ GE297.out) | exact HB.out)) hb); clear BK297; clear HB; have HO304 := n0_; have BK297 := n1_; have HB := n2_; clear n0_ n1_ n2_; (try clear hb); (try clear hb2); (try clear hk); (try clear hi); (try clear ho0); obtain ⟨Ao19, co19, eo19⟩ := Kd.R_slice HO304.out; subst eo19)))
                  go_roundg k2
                  case measure => have := HJ3.out; have := HK2.out; omega
                  case rel => exact ⟨(wrap64 (x8_2 - 1)), (by first | rfl | (simp; done) | (simp [*]; done)), H', ⟨by have := HJ3.out; have := HK2.out; omega⟩, ⟨by (with_reducible repeat (first | refine blk_drewN ?_ _ | refine blk_drew ?_ | refine blk_alloc ?_ _)); exact BK297.out⟩, ⟨by repeat (first | (with_reducible first | exact HB.out | apply below_alloc | apply pw_below_drewN | apply below_drew1 | refine below_set ?_ GE297.out) | exact HB.out)⟩⟩
                · rw [if_neg c17] at H
                  have c17b0 : decide (0 < (t302.length : Int)) = false := decide_eq_false c17
                  have c17b1 : decide (0 < t302.length) = false := decide_eq_false (by omega)
                  clear c17
                  simp only [Option.some.injEq, Prod.mk.injEq] at H
                  obtain ⟨rfl, rfl⟩ := H
                  go_wp2_with (first | (go_at_call 66; (with_reducible refine (impl_trodden.calls _ _ l1 a2 x8_2 t302 _ ?side1 ?side2 A16.out).mono ?_); (case side1 => repeat (first | exact (Kd.C_below HR1.out HB.out) | (with_reducible refine Kd.C_alloc ?_ _) | (with_reducible refine Kd.C_drewN ?_ _) | (with_reducible refine Kd.C_drew ?_))); (case side2 => exact HC1.out); rintro e w20 ⟨v303, rfl, ho0, hb⟩; have n0_ := Aside0.mk (Kd.R_lower ho0 (below_size (by repeat (first | (with_reducible first | exact HB.out | apply below_alloc | apply pw_below_drewN | apply below_drew1 | refine below_set ?_ GE297.out) | exact HB.out)))); have n1_ := Aside0.mk (blk_below (g := gb297) (o := .cells #[.slice A0_0 l0_0.length c0_0] 31 (0, 0)) (by (with_reducible repeat (first | refine blk_drewN ?_ _ | refine blk_drew ?_ | refine blk_alloc ?_ _)); exact BK297.out) hb); have n2_ := Aside0.mk (below_step (by repeat (first | (with_reducible first | exact HB.out | apply below_alloc | apply pw_below_drewN | apply below_drew1 | refine below_set ?_ GE297.out) | exact HB.out)) hb); clear BK297; clear HB; have HO304 := n0_; have BK297 := n1_; have HB := n2_; clear n0_ n1_ n2_; (try clear hb); (try clear hb2); (try clear hk); (try clear hi); (try clear ho0); obtain ⟨Ao21, co21, eo21⟩ := Kd.R_slice HO304.out; subst eo21))
                  repeat (go_quiet (first | (go_at_call 66; (with_reducible refine (impl_trodden.calls _ _ l1 a2 x8_2 t302 _ ?side1 ?side2 A16.out).mono ?_); (case side1 => repeat (first | exact (Kd.C_below HR1.out HB.out) | (with_reducible refine Kd.C_alloc ?_ _) | (with_reducible refine Kd.C_drewN ?_ _) | (with_reducible refine Kd.C_drew ?_))); (case side2 => exact HC1.out); rintro e w20 ⟨v303, rfl, ho0, hb⟩; have n0_ := Aside0.mk (Kd.R_lower ho0 (below_size (by repeat (first | (with_reducible first | exact HB.out | apply below_alloc | apply pw_below_drewN | apply below_drew1 | refine below_set ?_ GE297.out) | exact HB.out)))); have n1_ := Aside0.mk (blk_below (g := gb297) (o := .cells #[.slice A0_0 l0_0.length c0_0] 31 (0, 0)) (by (with_reducible repeat (first | refine blk_drewN ?_ _ | refine blk_drew ?_ | refine blk_alloc ?_ _)); exact BK297.out) hb); have n2_ := Aside0.mk (below_step (by repeat (first | (with_reducible first | exact HB.out | apply below_alloc | apply pw_below_drewN | apply below_drew1 | refine below_set ?_ GE297.out) | exact HB.out)) hb); clear BK297; clear HB; have HO304 := n0_; have BK297 := n1_; have HB := n2_; clear n0_ n1_ n2_; (try clear hb); (try clear hb2); (try clear hk); (try clear hi); (try clear ho0); obtain ⟨Ao21, co21, eo21⟩ := Kd.R_slice HO304.out; subst eo21)); try go_wp2_with (first | (go_at_call 66; (with_reducible refine (impl_trodden.calls _ _ l1 a2 x8_2 t302 _ ?side1 ?side2 A16.out).mono ?_); (case side1 => repeat (first | exact (Kd.C_below HR1.out HB.out) | (with_reducible refine Kd.C_alloc ?_ _) | (with_reducible refine Kd.C_drewN ?_ _) | (with_reducible refine Kd.C_drew ?_))); (case side2 => exact HC1.out); rintro e w20 ⟨v303, rfl, ho0, hb⟩; have n0_ := Aside0.mk (Kd.R_lower ho0 (below_size (by repeat (first | (with_reducible first | exact HB.out | apply below_alloc | apply pw_below_drewN | apply below_drew1 | refine below_set ?_ GE297.out) | exact HB.out)))); have n1_ := Aside0.mk (blk_below (g := gb297) (o := .cells #[.slice A0_0 l0_0.length c0_0] 31 (0, 0)) (by (with_reducible repeat (first | refine blk_drewN ?_ _ | refine blk_drew ?_ | refine blk_alloc ?_ _)); exact BK297.out) hb); have n2_ := Aside0.mk (below_step (by repeat (first | (with_reducible first | exact HB.out | apply below_alloc | apply pw_below_drewN | apply below_drew1 | refine below_set ?_ GE297.out) | exact HB.out)) hb); clear BK297; clear HB; have HO304 := n0_; have BK297 := n1_; have HB := n2_; clear n0_ n1_ n2_; (try clear hb); (try clear hb2); (try clear hk); (try clear hi); (try clear ho0); obtain ⟨Ao21, co21, eo21⟩ := Kd.R_slice HO304.out; subst eo21)))
                  go_ret2
                  exact ⟨by first | rfl | (simp [errW_none, errW_some] <;> rfl) | (simp [*, errW_none, errW_some] <;> rfl), by repeat (first | (with_reducible first | exact HB.out | apply below_alloc | apply pw_below_drewN | apply below_drew1 | refine below_set ?_ GE297.out) | exact HB.out)⟩
          · rw [if_neg c15] at H
            exact absurd H (by simp)
        · rw [if_neg c14] at H
          exact absurd H (by simp)
def laws_eqWindowS.l0 : Nat → List (S33) → List (S33) → Int → Option (Bool)
  | 0, _, _, _ => none
  | k + 1, x0, x1, x5 => if x5 < (x0.length : Int) then (if 0 ≤ x5 then (if x5 < (x1.length : Int) then ((laws_eqWindow.f ((rd_T33 x0 x5).f0) ((rd_T33 x0 x5).f1) ((rd_T33 x0 x5).f2) ((rd_T33 x0 x5).f3) ((rd_T33 x1 x5).f0) ((rd_T33 x1 x5).f1) ((rd_T33 x1 x5).f2) ((rd_T33 x1 x5).f3)).bind fun t307 => (if t307 = true then (laws_eqWindowS.l0 k x0 x1 (wrap64 (x5 + 1))) else (some false))) else (none)) else (none)) else (some true)
def laws_eqWindowS.f (k : Nat) (l0 : List (S33)) (l1 : List (S33)) : Option (Bool) := if (l0.length : Int) = (l1.length : Int) then (laws_eqWindowS.l0 k l0 l1 0) else (some false)
def laws_eqWindowS.T6 : Bool × List (List Nat × List Nat) := (true, [([], []), ([], []), ([0, 1], [0, 1]), ([2], [2]), ([], []), ([], []), ([4, 5], [4, 5]), ([6], [6]), ([3, 7], [3, 7]), ([8], [8])])
def laws_eqWindowS.B6 : List Nat := [0, 0, 3, 7, 0, 0, 48, 112, 255, 511]
theorem laws_eqWindowS.tab6 : rtab .any (opsOf Try.f26 6) = laws_eqWindowS.T6 := by kernel_rfl
theorem laws_eqWindowS.bits6 : waitsOk laws_eqWindowS.T6.2 laws_eqWindowS.B6 = true := by kernel_rfl
set_option maxHeartbeats 8000000 in
set_option maxRecDepth 100000 in
theorem laws_eqWindowS.calls (k : Nat) (A0 : Option Addr) (c0 : Nat) (l0 : List (S33)) (A1 : Option Addr) (c1 : Nat) (l1 : List (S33)) (r : Bool) (w : World) (hr0 : Kd.C k33 w A0 l0.length l0) (hc0 : l0.length ≤ c0) (hr1 : Kd.C k33 w A1 l1.length l1) (hc1 : l1.length ≤ c1) (h : laws_eqWindowS.f k l0 l1 = some r) :
    Calls Try.prog 26 #[.slice A0 l0.length c0, .slice A1 l1.length c1] w fun e w' => e = .returned (.bool r) ∧ Below w.heap.size w w' := by
  have hu33 := Try.underlying33
  have HR0 := Aside0.mk hr0
  have HC0 := Aside0.mk hc0
  clear hr0 hc0
  have HR1 := Aside0.mk hr1
  have HC1 := Aside0.mk hc1
  clear hr1 hc1
  have HB := Aside0.mk (Below.refl w.heap.size w)
  have H : (if (l0.length : Int) = (l1.length : Int) then (laws_eqWindowS.l0 k l0 l1 0) else (some false)) = some r := h
  clear h
  by_cases c3 : (l0.length : Int) = (l1.length : Int)
  · rw [if_pos c3] at H
    have c3b0 : ((l0.length : Int) == (l1.length : Int)) = true := beq_iff_eq.mpr c3
    have c3b1 : ((l0.length : Int) != (l1.length : Int)) = false := bne_eq_false_iff_eq.mpr c3
    have c3b2 : (l0.length == l1.length) = true := by first | simpa using c3 | (simp at c3 ⊢; omega)
    clear c3
    have H' := Aside0.mk H
    clear H
    go_enter Try.func26, Try.ntmps26
    go_wp2
    go_loopg [5] k (fun kq v5 w' => ∃ (x5_1 : Int), v5 = .int .i64 x5_1 ∧ Aside0 (laws_eqWindowS.l0 kq l0 l1 x5_1 = some r) ∧ Aside0 (kq ≤ k) ∧ Aside0 (Below w.heap.size w w'))
    case atStart => exact ⟨(0), (by first | rfl | (simp; done) | (simp [*]; done)), H', ⟨Nat.le_refl _⟩, ⟨by repeat (first | (with_reducible first | exact HB.out | apply below_alloc | apply pw_below_drewN | apply below_drew1) | exact HB.out)⟩⟩
    case round =>
      clear H'
      try clear c1
      try clear c2
      try clear p2
      try clear c3
      try clear c3b0
      try clear c3b1
      try clear c3b2
      obtain ⟨x5_1, rfl, HA, HK1, HB⟩ := hrel
      cases gk with
      | zero => exact absurd HA.out (by simp [laws_eqWindowS.l0])
      | succ k1 =>
        have H := HA.out
        clear HA
        simp only [laws_eqWindowS.l0] at H
        by_cases c4 : x5_1 < (l0.length : Int)
        · rw [if_pos c4] at H
          have c4b0 : decide (x5_1 < (l0.length : Int)) = true := decide_eq_true c4
          clear c4
          by_cases c5 : 0 ≤ x5_1
          · rw [if_pos c5] at H
            have c5b0 : decide (0 ≤ x5_1) = true := decide_eq_true c5
            clear c5
            by_cases c6 : x5_1 < (l1.length : Int)
            · rw [if_pos c6] at H
              have c6b0 : decide (x5_1 < (l1.length : Int)) = true := decide_eq_true c6
              clear c6
              replace H := Option.bind_eq_some_iff.mp H
              obtain ⟨t307, A70, H⟩ := H
              replace H : (if t307 = true then (laws_eqWindowS.l0 k1 l0 l1 (wrap64 (x5_1 + 1))) else (some false)) = some r := H
              have A7 := Aside0.mk A70
              clear A70
              by_cases c8 : t307 = true
              · subst c8
                have H1 : (laws_eqWindowS.l0 k1 l0 l1 (wrap64 (x5_1 + 1))) = some r := by rw [if_pos rfl] at H; exact H
                clear H
                have H := H1
                clear H1
                have H' := Aside0.mk H
                clear H
                try go_wp2
                have n0_ := Aside0.mk (below_drew1 HB.out)
                clear HB
                have HB := n0_
                clear n0_
                have p305 : 0 ≤ (x5_1 : Int) := of_decide_eq_true (by first | (with_reducible assumption) | assumption)
                have q305 : x5_1 < (l0.length : Int) := of_decide_eq_true (by first | (with_reducible assumption) | assumption)
                obtain ⟨ad305, e305, hx305_0, hx305_1, hx305_2, hx305_3⟩ := at_T33 HR0.out x5_1 p305 q305
                have hw305_3 := hx305_3
                have hw305_2 := hx305_2
                have hw305_1 := hx305_1
                have hw305_0 := hx305_0
                cases e305
                replace hx305_0 := (HB.out.cell (World.block_lt_of_cell? w _ hx305_0)).trans hx305_0
                replace hx305_1 := (HB.out.cell (World.block_lt_of_cell? w _ hx305_1)).trans hx305_1
                replace hx305_2 := (HB.out.cell (World.block_lt_of_cell? w _ hx305_2)).trans hx305_2
                replace hx305_3 := (HB.out.cell (World.block_lt_of_cell? w _ hx305_3)).trans hx305_3
                replace p305 := eq_true p305
                replace q305 := eq_true q305
                have p306 : 0 ≤ (x5_1 : Int) := of_decide_eq_true (by first | (with_reducible assumption) | assumption)
                have q306 : x5_1 < (l1.length : Int) := of_decide_eq_true (by first | (with_reducible assumption) | assumption)
                obtain ⟨ad306, e306, hx306_0, hx306_1, hx306_2, hx306_3⟩ := at_T33 HR1.out x5_1 p306 q306
                have hw306_3 := hx306_3
                have hw306_2 := hx306_2
                have hw306_1 := hx306_1
                have hw306_0 := hx306_0
                cases e306
                replace hx306_0 := (HB.out.cell (World.block_lt_of_cell? w _ hx306_0)).trans hx306_0
                replace hx306_1 := (HB.out.cell (World.block_lt_of_cell? w _ hx306_1)).trans hx306_1
                replace hx306_2 := (HB.out.cell (World.block_lt_of_cell? w _ hx306_2)).trans hx306_2
                replace hx306_3 := (HB.out.cell (World.block_lt_of_cell? w _ hx306_3)).trans hx306_3
                replace p306 := eq_true p306
                replace q306 := eq_true q306
                refine start_ (n := 10) (S := fun w' => w'.cell? (ad305.add ((x5_1).toNat * 4)) = some (.int .i64 ((rd_T33 l0 x5_1).f0)) ∧ w'.cell? ⟨(ad305.add ((x5_1).toNat * 4)).block, (ad305.add ((x5_1).toNat * 4)).off + 1, none⟩ = some (.int .i64 ((rd_T33 l0 x5_1).f1)) ∧ w'.cell? ⟨(ad305.add ((x5_1).toNat * 4)).block, (ad305.add ((x5_1).toNat * 4)).off + 2, none⟩ = some (.int .i64 ((rd_T33 l0 x5_1).f2)) ∧ w'.cell? ⟨(ad305.add ((x5_1).toNat * 4)).block, (ad305.add ((x5_1).toNat * 4)).off + 3, none⟩ = some (.int .i64 ((rd_T33 l0 x5_1).f3)) ∧ w'.cell? (ad306.add ((x5_1).toNat * 4)) = some (.int .i64 ((rd_T33 l1 x5_1).f0)) ∧ w'.cell? ⟨(ad306.add ((x5_1).toNat * 4)).block, (ad306.add ((x5_1).toNat * 4)).off + 1, none⟩ = some (.int .i64 ((rd_T33 l1 x5_1).f1)) ∧ w'.cell? ⟨(ad306.add ((x5_1).toNat * 4)).block, (ad306.add ((x5_1).toNat * 4)).off + 2, none⟩ = some (.int .i64 ((rd_T33 l1 x5_1).f2)) ∧ w'.cell? ⟨(ad306.add ((x5_1).toNat * 4)).block, (ad306.add ((x5_1).toNat * 4)).off + 3, none⟩ = some (.int .i64 ((rd_T33 l1 x5_1).f3))) (ds := []) #[false, false, false, false, false, false, false, false, false, false] (by kernel_rfl) rfl rfl ⟨((HB.out.cell (World.block_lt_of_cell? w _ hw305_0)).trans hw305_0), ((HB.out.cell (World.block_lt_of_cell? w _ hw305_1)).trans hw305_1), ((HB.out.cell (World.block_lt_of_cell? w _ hw305_2)).trans hw305_2), ((HB.out.cell (World.block_lt_of_cell? w _ hw305_3)).trans hw305_3), ((HB.out.cell (World.block_lt_of_cell? w _ hw306_0)).trans hw306_0), ((HB.out.cell (World.block_lt_of_cell? w _ hw306_1)).trans hw306_1), ((HB.out.cell (World.block_lt_of_cell? w _ hw306_2)).trans hw306_2), ((HB.out.cell (World.block_lt_of_cell? w _ hw306_3)).trans hw306_3)⟩ (fun hHeld => ?_); refine with_tabW laws_eqWindowS.tab6 laws_eqWindowS.bits6 (fun HT_ HW_ => ?_)
                generalize wr.drew = w9 at HB hx305_0 hx305_1 hx305_2 hx305_3 hx306_0 hx306_1 hx306_2 hx306_3 hHeld ⊢
                refine pure_ (i := 0) (N := some 17) (v := ?_) (a' := ?_) #[true, false, false, false, false, false, false, false, false, false] rfl rfl (any_of HT_.out (by kernel_rfl)) (fun _ _ _ h => h) (Or.inl ⟨by rfl, ?_⟩) ?_ ?_
                rotate_left
                · intro w'
                  go_simp
                  with_reducible rfl
                rotate_left
                · simp only [Act.put, List.setIfInBounds_toArray, List.set_cons_zero, List.set_cons_succ, i64_w, i32_w]
                  rfl
                refine pure_ (i := 1) (N := some 18) (v := ?_) (a' := ?_) #[true, true, false, false, false, false, false, false, false, false] rfl rfl (any_of HT_.out (by kernel_rfl)) (fun _ _ _ h => h) (Or.inl ⟨by rfl, ?_⟩) ?_ ?_
                rotate_left
                · intro w'
                  go_simp
                  with_reducible rfl
                rotate_left
                · simp only [Act.put, List.setIfInBounds_toArray, List.set_cons_zero, List.set_cons_succ, i64_w, i32_w]
                  rfl
                refine pure_ (i := 2) (N := some 19) (v := ?_) (a' := ?_) #[true, true, true, false, false, false, false, false, false, false] rfl rfl (any_of HT_.out (by kernel_rfl)) (fun _ _ _ h => h) (Or.inl ⟨by rfl, ?_⟩) ?_ ?_
                rotate_left
                · intro w'
                  go_simp
                  with_reducible rfl
                rotate_left
                · simp only [Act.put, List.setIfInBounds_toArray, List.set_cons_zero, List.set_cons_succ, i64_w, i32_w]
                  rfl
                refine pure_ (i := 4) (N := some 21) (v := ?_) (a' := ?_) #[true, true, true, false, true, false, false, false, false, false] rfl rfl (any_of HT_.out (by kernel_rfl)) (fun _ _ _ h => h) (Or.inl ⟨by rfl, ?_⟩) ?_ ?_
                rotate_left
                · intro w'
                  go_simp
                  with_reducible rfl
                rotate_left
                · simp only [Act.put, List.setIfInBounds_toArray, List.set_cons_zero, List.set_cons_succ, i64_w, i32_w]
                  rfl
                refine pure_ (i := 5) (N := some 22) (v := ?_) (a' := ?_) #[true, true, true, false, true, true, false, false, false, false] rfl rfl (any_of HT_.out (by kernel_rfl)) (fun _ _ _ h => h) (Or.inl ⟨by rfl, ?_⟩) ?_ ?_
                rotate_left
                · intro w'
                  go_simp
                  with_reducible rfl
                rotate_left
                · simp only [Act.put, List.setIfInBounds_toArray, List.set_cons_zero, List.set_cons_succ, i64_w, i32_w]
                  rfl
                refine pure_ (i := 6) (N := some 23) (v := ?_) (a' := ?_) #[true, true, true, false, true, true, true, false, false, false] rfl rfl (any_of HT_.out (by kernel_rfl)) (fun _ _ _ h => h) (Or.inl ⟨by rfl, ?_⟩) ?_ ?_
                rotate_left
                · intro w'
                  go_simp
                  with_reducible rfl
                rotate_left
                · simp only [Act.put, List.setIfInBounds_toArray, List.set_cons_zero, List.set_cons_succ, i64_w, i32_w]
                  rfl
                refine take_ (i := 3) (N := some 20) (v := ?_) (a' := ?_) #[true, true, true, true, true, true, true, false, false, false] rfl rfl (take_ofW HT_.out HW_.out (by kernel_rfl)) (fun _ _ _ h => h) (Or.inl ⟨by rfl, ?_⟩) hHeld ?_ ?_
                rotate_left
                · rintro w' ⟨s0, s1, s2, s3, s4, s5, s6, s7⟩
                  go_simp
                  with_reducible rfl
                rotate_left
                · simp only [Act.put, List.setIfInBounds_toArray, List.set_cons_zero, List.set_cons_succ, i64_w, i32_w]
                  rfl
                refine take_ (i := 7) (N := some 24) (v := ?_) (a' := ?_) #[true, true, true, true, true, true, true, true, false, false] rfl rfl (take_ofW HT_.out HW_.out (by kernel_rfl)) (fun _ _ _ h => h) (Or.inl ⟨by rfl, ?_⟩) hHeld ?_ ?_
                rotate_left
                · rintro w' ⟨s0, s1, s2, s3, s4, s5, s6, s7⟩
                  go_simp
                  with_reducible rfl
                rotate_left
                · simp only [Act.put, List.setIfInBounds_toArray, List.set_cons_zero, List.set_cons_succ, i64_w, i32_w]
                  rfl
                refine one_ (i := 8) (N := some 25) #[true, true, true, true, true, true, true, true, true, false] rfl rfl (one_of HT_.out (by kernel_rfl)) (by decide) (fun K hK => ?_)
                refine goes_ Try.func67 (by kernel_rfl) rfl #[.agg #[.int .i64 ((rd_T33 l0 x5_1).f0), .int .i64 ((rd_T33 l0 x5_1).f1), .int .i64 ((rd_T33 l0 x5_1).f2), .int .i64 ((rd_T33 l0 x5_1).f3)], .agg #[.int .i64 ((rd_T33 l1 x5_1).f0), .int .i64 ((rd_T33 l1 x5_1).f1), .int .i64 ((rd_T33 l1 x5_1).f2), .int .i64 ((rd_T33 l1 x5_1).f3)]] (by rfl) rfl rfl (by (try simp only [List.map_toArray, List.map_cons, List.map_nil]); first | done | rfl | (simp only [List.length_drop, List.length_take]; rfl)) ?_
                with_reducible refine (laws_eqWindow.calls ((rd_T33 l0 x5_1).f0) ((rd_T33 l0 x5_1).f1) ((rd_T33 l0 x5_1).f2) ((rd_T33 l0 x5_1).f3) ((rd_T33 l1 x5_1).f0) ((rd_T33 l1 x5_1).f1) ((rd_T33 l1 x5_1).f2) ((rd_T33 l1 x5_1).f3) true _ A7.out).mono ?_
                rintro e w10 ⟨rfl, hb⟩
                refine ⟨_, rfl, ?_⟩
                have n0_ := Aside0.mk (below_step (by repeat (first | (with_reducible first | exact HB.out | apply below_alloc | apply pw_below_drewN | apply below_drew1) | exact HB.out)) hb)
                clear HB
                have HB := n0_
                clear n0_
                (try clear hb)
                (try clear hb2)
                (try clear hk)
                (try clear hi)
                refine hK.out _ _ ⟨((HB.out.cell (World.block_lt_of_cell? w _ hw305_0)).trans hw305_0), ((HB.out.cell (World.block_lt_of_cell? w _ hw305_1)).trans hw305_1), ((HB.out.cell (World.block_lt_of_cell? w _ hw305_2)).trans hw305_2), ((HB.out.cell (World.block_lt_of_cell? w _ hw305_3)).trans hw305_3), ((HB.out.cell (World.block_lt_of_cell? w _ hw306_0)).trans hw306_0), ((HB.out.cell (World.block_lt_of_cell? w _ hw306_1)).trans hw306_1), ((HB.out.cell (World.block_lt_of_cell? w _ hw306_2)).trans hw306_2), ((HB.out.cell (World.block_lt_of_cell? w _ hw306_3)).trans hw306_3)⟩ (fun hHeld => ?_)
                clear hK K
                refine norm_ (a' := ?_) ?_ ?_
                rotate_left
                · show Act.put _ (some 25) _ = _
                  simp only [Act.put, List.setIfInBounds_toArray, List.set_cons_zero, List.set_cons_succ, i64_w, i32_w]
                  rfl
                refine pure_ (i := 9) (N := some 26) (v := ?_) (a' := ?_) #[true, true, true, true, true, true, true, true, true, true] rfl rfl (any_of HT_.out (by kernel_rfl)) (fun _ _ _ h => h) (Or.inl ⟨by rfl, ?_⟩) ?_ ?_
                rotate_left
                · intro w'
                  go_simp
                  with_reducible rfl
                rotate_left
                · simp only [Act.put, List.setIfInBounds_toArray, List.set_cons_zero, List.set_cons_succ, i64_w, i32_w]
                  rfl
                refine done_ (done_of HT_.out (by kernel_rfl)) ?_
                try go_wp2
                go_roundg k1
                case measure => have := HK1.out; omega
                case rel => exact ⟨(wrap64 (x5_1 + 1)), (by first | rfl | (simp; done) | (simp [*]; done)), H', ⟨by have := HK1.out; omega⟩, ⟨by repeat (first | (with_reducible first | exact HB.out | apply below_alloc | apply pw_below_drewN | apply below_drew1) | exact HB.out)⟩⟩
              · replace c8 := Bool.eq_false_iff.mpr c8
                subst c8
                have H1 : (some false) = some r := by rw [if_neg (show ¬ (false = true) by decide)] at H; exact H
                clear H
                have H := H1
                clear H1
                obtain rfl := Option.some.inj H
                try go_wp2
                have n0_ := Aside0.mk (below_drew1 HB.out)
                clear HB
                have HB := n0_
                clear n0_
                have p305 : 0 ≤ (x5_1 : Int) := of_decide_eq_true (by first | (with_reducible assumption) | assumption)
                have q305 : x5_1 < (l0.length : Int) := of_decide_eq_true (by first | (with_reducible assumption) | assumption)
                obtain ⟨ad305, e305, hx305_0, hx305_1, hx305_2, hx305_3⟩ := at_T33 HR0.out x5_1 p305 q305
                have hw305_3 := hx305_3
                have hw305_2 := hx305_2
                have hw305_1 := hx305_1
                have hw305_0 := hx305_0
                cases e305
                replace hx305_0 := (HB.out.cell (World.block_lt_of_cell? w _ hx305_0)).trans hx305_0
                replace hx305_1 := (HB.out.cell (World.block_lt_of_cell? w _ hx305_1)).trans hx305_1
                replace hx305_2 := (HB.out.cell (World.block_lt_of_cell? w _ hx305_2)).trans hx305_2
                replace hx305_3 := (HB.out.cell (World.block_lt_of_cell? w _ hx305_3)).trans hx305_3
                replace p305 := eq_true p305
                replace q305 := eq_true q305
                have p306 : 0 ≤ (x5_1 : Int) := of_decide_eq_true (by first | (with_reducible assumption) | assumption)
                have q306 : x5_1 < (l1.length : Int) := of_decide_eq_true (by first | (with_reducible assumption) | assumption)
                obtain ⟨ad306, e306, hx306_0, hx306_1, hx306_2, hx306_3⟩ := at_T33 HR1.out x5_1 p306 q306
                have hw306_3 := hx306_3
                have hw306_2 := hx306_2
                have hw306_1 := hx306_1
                have hw306_0 := hx306_0
                cases e306
                replace hx306_0 := (HB.out.cell (World.block_lt_of_cell? w _ hx306_0)).trans hx306_0
                replace hx306_1 := (HB.out.cell (World.block_lt_of_cell? w _ hx306_1)).trans hx306_1
                replace hx306_2 := (HB.out.cell (World.block_lt_of_cell? w _ hx306_2)).trans hx306_2
                replace hx306_3 := (HB.out.cell (World.block_lt_of_cell? w _ hx306_3)).trans hx306_3
                replace p306 := eq_true p306
                replace q306 := eq_true q306
                refine start_ (n := 10) (S := fun w' => w'.cell? (ad305.add ((x5_1).toNat * 4)) = some (.int .i64 ((rd_T33 l0 x5_1).f0)) ∧ w'.cell? ⟨(ad305.add ((x5_1).toNat * 4)).block, (ad305.add ((x5_1).toNat * 4)).off + 1, none⟩ = some (.int .i64 ((rd_T33 l0 x5_1).f1)) ∧ w'.cell? ⟨(ad305.add ((x5_1).toNat * 4)).block, (ad305.add ((x5_1).toNat * 4)).off + 2, none⟩ = some (.int .i64 ((rd_T33 l0 x5_1).f2)) ∧ w'.cell? ⟨(ad305.add ((x5_1).toNat * 4)).block, (ad305.add ((x5_1).toNat * 4)).off + 3, none⟩ = some (.int .i64 ((rd_T33 l0 x5_1).f3)) ∧ w'.cell? (ad306.add ((x5_1).toNat * 4)) = some (.int .i64 ((rd_T33 l1 x5_1).f0)) ∧ w'.cell? ⟨(ad306.add ((x5_1).toNat * 4)).block, (ad306.add ((x5_1).toNat * 4)).off + 1, none⟩ = some (.int .i64 ((rd_T33 l1 x5_1).f1)) ∧ w'.cell? ⟨(ad306.add ((x5_1).toNat * 4)).block, (ad306.add ((x5_1).toNat * 4)).off + 2, none⟩ = some (.int .i64 ((rd_T33 l1 x5_1).f2)) ∧ w'.cell? ⟨(ad306.add ((x5_1).toNat * 4)).block, (ad306.add ((x5_1).toNat * 4)).off + 3, none⟩ = some (.int .i64 ((rd_T33 l1 x5_1).f3))) (ds := []) #[false, false, false, false, false, false, false, false, false, false] (by kernel_rfl) rfl rfl ⟨((HB.out.cell (World.block_lt_of_cell? w _ hw305_0)).trans hw305_0), ((HB.out.cell (World.block_lt_of_cell? w _ hw305_1)).trans hw305_1), ((HB.out.cell (World.block_lt_of_cell? w _ hw305_2)).trans hw305_2), ((HB.out.cell (World.block_lt_of_cell? w _ hw305_3)).trans hw305_3), ((HB.out.cell (World.block_lt_of_cell? w _ hw306_0)).trans hw306_0), ((HB.out.cell (World.block_lt_of_cell? w _ hw306_1)).trans hw306_1), ((HB.out.cell (World.block_lt_of_cell? w _ hw306_2)).trans hw306_2), ((HB.out.cell (World.block_lt_of_cell? w _ hw306_3)).trans hw306_3)⟩ (fun hHeld => ?_); refine with_tabW laws_eqWindowS.tab6 laws_eqWindowS.bits6 (fun HT_ HW_ => ?_)
                generalize wr.drew = w11 at HB hx305_0 hx305_1 hx305_2 hx305_3 hx306_0 hx306_1 hx306_2 hx306_3 hHeld ⊢
                refine pure_ (i := 0) (N := some 17) (v := ?_) (a' := ?_) #[true, false, false, false, false, false, false, false, false, false] rfl rfl (any_of HT_.out (by kernel_rfl)) (fun _ _ _ h => h) (Or.inl ⟨by rfl, ?_⟩) ?_ ?_
                rotate_left
                · intro w'
                  go_simp
                  with_reducible rfl
                rotate_left
                · simp only [Act.put, List.setIfInBounds_toArray, List.set_cons_zero, List.set_cons_succ, i64_w, i32_w]
                  rfl
                refine pure_ (i := 1) (N := some 18) (v := ?_) (a' := ?_) #[true, true, false, false, false, false, false, false, false, false] rfl rfl (any_of HT_.out (by kernel_rfl)) (fun _ _ _ h => h) (Or.inl ⟨by rfl, ?_⟩) ?_ ?_
                rotate_left
                · intro w'
                  go_simp
                  with_reducible rfl
                rotate_left
                · simp only [Act.put, List.setIfInBounds_toArray, List.set_cons_zero, List.set_cons_succ, i64_w, i32_w]
                  rfl
                refine pure_ (i := 2) (N := some 19) (v := ?_) (a' := ?_) #[true, true, true, false, false, false, false, false, false, false] rfl rfl (any_of HT_.out (by kernel_rfl)) (fun _ _ _ h => h) (Or.inl ⟨by rfl, ?_⟩) ?_ ?_
                rotate_left
                · intro w'
                  go_simp
                  with_reducible rfl
                rotate_left
                · simp only [Act.put, List.setIfInBounds_toArray, List.set_cons_zero, List.set_cons_succ, i64_w, i32_w]
                  rfl
                refine pure_ (i := 4) (N := some 21) (v := ?_) (a' := ?_) #[true, true, true, false, true, false, false, false, false, false] rfl rfl (any_of HT_.out (by kernel_rfl)) (fun _ _ _ h => h) (Or.inl ⟨by rfl, ?_⟩) ?_ ?_
                rotate_left
                · intro w'
                  go_simp
                  with_reducible rfl
                rotate_left
                · simp only [Act.put, List.setIfInBounds_toArray, List.set_cons_zero, List.set_cons_succ, i64_w, i32_w]
                  rfl
                refine pure_ (i := 5) (N := some 22) (v := ?_) (a' := ?_) #[true, true, true, false, true, true, false, false, false, false] rfl rfl (any_of HT_.out (by kernel_rfl)) (fun _ _ _ h => h) (Or.inl ⟨by rfl, ?_⟩) ?_ ?_
                rotate_left
                · intro w'
                  go_simp
                  with_reducible rfl
                rotate_left
                · simp only [Act.put, List.setIfInBounds_toArray, List.set_cons_zero, List.set_cons_succ, i64_w, i32_w]
                  rfl
                refine pure_ (i := 6) (N := some 23) (v := ?_) (a' := ?_) #[true, true, true, false, true, true, true, false, false, false] rfl rfl (any_of HT_.out (by kernel_rfl)) (fun _ _ _ h => h) (Or.inl ⟨by rfl, ?_⟩) ?_ ?_
                rotate_left
                · intro w'
                  go_simp
                  with_reducible rfl
                rotate_left
                · simp only [Act.put, List.setIfInBounds_toArray, List.set_cons_zero, List.set_cons_succ, i64_w, i32_w]
                  rfl
                refine take_ (i := 3) (N := some 20) (v := ?_) (a' := ?_) #[true, true, true, true, true, true, true, false, false, false] rfl rfl (take_ofW HT_.out HW_.out (by kernel_rfl)) (fun _ _ _ h => h) (Or.inl ⟨by rfl, ?_⟩) hHeld ?_ ?_
                rotate_left
                · rintro w' ⟨s0, s1, s2, s3, s4, s5, s6, s7⟩
                  go_simp
                  with_reducible rfl
                rotate_left
                · simp only [Act.put, List.setIfInBounds_toArray, List.set_cons_zero, List.set_cons_succ, i64_w, i32_w]
                  rfl
                refine take_ (i := 7) (N := some 24) (v := ?_) (a' := ?_) #[true, true, true, true, true, true, true, true, false, false] rfl rfl (take_ofW HT_.out HW_.out (by kernel_rfl)) (fun _ _ _ h => h) (Or.inl ⟨by rfl, ?_⟩) hHeld ?_ ?_
                rotate_left
                · rintro w' ⟨s0, s1, s2, s3, s4, s5, s6, s7⟩
                  go_simp
                  with_reducible rfl
                rotate_left
                · simp only [Act.put, List.setIfInBounds_toArray, List.set_cons_zero, List.set_cons_succ, i64_w, i32_w]
                  rfl
                refine one_ (i := 8) (N := some 25) #[true, true, true, true, true, true, true, true, true, false] rfl rfl (one_of HT_.out (by kernel_rfl)) (by decide) (fun K hK => ?_)
                refine goes_ Try.func67 (by kernel_rfl) rfl #[.agg #[.int .i64 ((rd_T33 l0 x5_1).f0), .int .i64 ((rd_T33 l0 x5_1).f1), .int .i64 ((rd_T33 l0 x5_1).f2), .int .i64 ((rd_T33 l0 x5_1).f3)], .agg #[.int .i64 ((rd_T33 l1 x5_1).f0), .int .i64 ((rd_T33 l1 x5_1).f1), .int .i64 ((rd_T33 l1 x5_1).f2), .int .i64 ((rd_T33 l1 x5_1).f3)]] (by rfl) rfl rfl (by (try simp only [List.map_toArray, List.map_cons, List.map_nil]); first | done | rfl | (simp only [List.length_drop, List.length_take]; rfl)) ?_
                with_reducible refine (laws_eqWindow.calls ((rd_T33 l0 x5_1).f0) ((rd_T33 l0 x5_1).f1) ((rd_T33 l0 x5_1).f2) ((rd_T33 l0 x5_1).f3) ((rd_T33 l1 x5_1).f0) ((rd_T33 l1 x5_1).f1) ((rd_T33 l1 x5_1).f2) ((rd_T33 l1 x5_1).f3) false _ A7.out).mono ?_
                rintro e w12 ⟨rfl, hb⟩
                refine ⟨_, rfl, ?_⟩
                have n0_ := Aside0.mk (below_step (by repeat (first | (with_reducible first | exact HB.out | apply below_alloc | apply pw_below_drewN | apply below_drew1) | exact HB.out)) hb)
                clear HB
                have HB := n0_
                clear n0_
                (try clear hb)
                (try clear hb2)
                (try clear hk)
                (try clear hi)
                refine hK.out _ _ ⟨((HB.out.cell (World.block_lt_of_cell? w _ hw305_0)).trans hw305_0), ((HB.out.cell (World.block_lt_of_cell? w _ hw305_1)).trans hw305_1), ((HB.out.cell (World.block_lt_of_cell? w _ hw305_2)).trans hw305_2), ((HB.out.cell (World.block_lt_of_cell? w _ hw305_3)).trans hw305_3), ((HB.out.cell (World.block_lt_of_cell? w _ hw306_0)).trans hw306_0), ((HB.out.cell (World.block_lt_of_cell? w _ hw306_1)).trans hw306_1), ((HB.out.cell (World.block_lt_of_cell? w _ hw306_2)).trans hw306_2), ((HB.out.cell (World.block_lt_of_cell? w _ hw306_3)).trans hw306_3)⟩ (fun hHeld => ?_)
                clear hK K
                refine norm_ (a' := ?_) ?_ ?_
                rotate_left
                · show Act.put _ (some 25) _ = _
                  simp only [Act.put, List.setIfInBounds_toArray, List.set_cons_zero, List.set_cons_succ, i64_w, i32_w]
                  rfl
                refine pure_ (i := 9) (N := some 26) (v := ?_) (a' := ?_) #[true, true, true, true, true, true, true, true, true, true] rfl rfl (any_of HT_.out (by kernel_rfl)) (fun _ _ _ h => h) (Or.inl ⟨by rfl, ?_⟩) ?_ ?_
                rotate_left
                · intro w'
                  go_simp
                  with_reducible rfl
                rotate_left
                · simp only [Act.put, List.setIfInBounds_toArray, List.set_cons_zero, List.set_cons_succ, i64_w, i32_w]
                  rfl
                refine done_ (done_of HT_.out (by kernel_rfl)) ?_
                try go_wp2
                go_ret
                exact ⟨by first | rfl | (simp [errW_none, errW_some] <;> rfl) | (simp [*, errW_none, errW_some] <;> rfl), by repeat (first | (with_reducible first | exact HB.out | apply below_alloc | apply pw_below_drewN | apply below_drew1) | exact HB.out)⟩
            · rw [if_neg c6] at H
              exact absurd H (by simp)
          · rw [if_neg c5] at H
            exact absurd H (by simp)
        · rw [if_neg c4] at H
          have c4b0 : decide (x5_1 < (l0.length : Int)) = false := decide_eq_false c4
          clear c4
          obtain rfl := Option.some.inj H
          go_wp2
          go_ret
          exact ⟨by first | rfl | (simp [errW_none, errW_some] <;> rfl) | (simp [*, errW_none, errW_some] <;> rfl), by repeat (first | (with_reducible first | exact HB.out | apply below_alloc | apply pw_below_drewN | apply below_drew1) | exact HB.out)⟩
  · rw [if_neg c3] at H
    have c3b0 : ((l0.length : Int) == (l1.length : Int)) = false := beq_eq_false_iff_ne.mpr c3
    have c3b1 : ((l0.length : Int) != (l1.length : Int)) = true := bne_iff_ne.mpr c3
    have c3b2 : (l0.length == l1.length) = false := by first | simpa using c3 | (simp at c3 ⊢; omega)
    obtain rfl := Option.some.inj H
    go_enter Try.func26, Try.ntmps26
    go_wp2
    go_ret
    exact ⟨by first | rfl | (simp [errW_none, errW_some] <;> rfl) | (simp [*, errW_none, errW_some] <;> rfl), by repeat (first | (with_reducible first | exact HB.out | apply below_alloc | apply pw_below_drewN | apply below_drew1) | exact HB.out)⟩
end Go.Proofs.Ytaoffejflichjaa.P
end
section
namespace Go.Proofs.Ytaoffejflichjaa.P
open Go.RowKit Go.Proofs.YtaoffejflichjaaW.PrintWords Go.Proofs.YtaoffejflichjaaW.PrintLast Go.Proofs.YtaoffejflichjaaW.PrintMore
set_option linter.unusedVariables false
set_option linter.unusedSimpArgs false
def laws_FnExactSafeToAppend.j0 : Nat → List (S26) → List (S33) → Bool → List (List Int) → List (List Int) → Option (Bool)
  | 0, _, _, _, _, _ => none
  | k + 1, x1, x11, x51, x309000, x323000 => if x51 = true then (some false) else ((laws_toMemory.f k x309000).bind fun t328 => ((laws_eqMemory.f k x323000 t328).bind fun t331 => (if t331 = true then ((laws_toWindowS.f k x1).bind fun t332 => ((laws_eqWindowS.f k x11 t332).bind fun t335 => (if t335 = true then (some true) else (some false)))) else (some false))))
def laws_FnExactSafeToAppend.f (k : Nat) (l0_0 : List (List Int)) (l1 : List (S26)) (a2 : Int) : Option (Bool) := (laws_szMemory.f k l0_0 1048576).bind fun t309 => (if t309 < 0 then (some true) else ((laws_szWindowS.f l1 t309).bind fun t310 => (if t310 < 0 then (some true) else ((laws_toMemory.f k l0_0).bind fun t311 => ((laws_toWindowS.f k l1).bind fun t314 => ((spec_SafeToAppend.f k t311 t314 a2).bind fun bt317 => ((laws_toMemory.f k l0_0).bind fun t319 => ((laws_toWindowS.f k l1).bind fun t323 => ((impl_SafeToAppend.f k t319 t323 a2).bind fun bt326 => (if bt326.1 = bt317.1 then (laws_FnExactSafeToAppend.j0 k l1 t323 (bt326.2 != bt317.2) l0_0 t319) else (laws_FnExactSafeToAppend.j0 k l1 t323 true l0_0 t319)))))))))))
set_option maxHeartbeats 8000000 in
set_option maxRecDepth 100000 in
theorem laws_FnExactSafeToAppend.calls (k : Nat) (A0_0 : Option Addr) (c0_0 : Nat) (l0_0 : List (List Int)) (A1 : Option Addr) (c1 : Nat) (l1 : List (S26)) (a2 : Int) (r : Bool) (w : World) (hr0_0 : Kd.C (Kd.slice 5 (Kd.int .u8)) w A0_0 l0_0.length l0_0) (hc0_0 : l0_0.length ≤ c0_0) (hr1 : Kd.C k26 w A1 l1.length l1) (hc1 : l1.length ≤ c1) (h : laws_FnExactSafeToAppend.f k l0_0 l1 a2 = some r) :
    Calls Try.prog 4 #[.agg #[.slice A0_0 l0_0.length c0_0], .slice A1 l1.length c1, .int .i64 a2] w fun e w' => e = .returned (.bool r) ∧ Below w.heap.size w w' := by
  have hu24 := Try.underlying24
  have hu31 := Try.underlying31
  have HR0_0 := Aside0.mk hr0_0
  have HC0_0 := Aside0.mk hc0_0
  clear hr0_0 hc0_0
  have HR1 := Aside0.mk hr1
  have HC1 := Aside0.mk hc1
  clear hr1 hc1
  have HB := Aside0.mk (Below.refl w.heap.size w)
  have H : ((laws_szMemory.f k l0_0 1048576).bind fun t309 => (if t309 < 0 then (some true) else ((laws_szWindowS.f l1 t309).bind fun t310 => (if t310 < 0 then (some true) else ((laws_toMemory.f k l0_0).bind fun t311 => ((laws_toWindowS.f k l1).bind fun t314 => ((spec_SafeToAppend.f k t311 t314 a2).bind fun bt317 => ((laws_toMemory.f k l0_0).bind fun t319 => ((laws_toWindowS.f k l1).bind fun t323 => ((impl_SafeToAppend.f k t319 t323 a2).bind fun bt326 => (if bt326.1 = bt317.1 then (laws_FnExactSafeToAppend.j0 k l1 t323 (bt326.2 != bt317.2) l0_0 t319) else (laws_FnExactSafeToAppend.j0 k l1 t323 true l0_0 t319)))))))))))) = some r := h
  clear h
  replace H := Option.bind_eq_some_iff.mp H
  obtain ⟨t309, A40, H⟩ := H
  replace H : (if t309 < 0 then (some true) else ((laws_szWindowS.f l1 t309).bind fun t310 => (if t310 < 0 then (some true) else ((laws_toMemory.f k l0_0).bind fun t311 => ((laws_toWindowS.f k l1).bind fun t314 => ((spec_SafeToAppend.f k t311 t314 a2).bind fun bt317 => ((laws_toMemory.f k l0_0).bind fun t319 => ((laws_toWindowS.f k l1).bind fun t323 => ((impl_SafeToAppend.f k t319 t323 a2).bind fun bt326 => (if bt326.1 = bt317.1 then (laws_FnExactSafeToAppend.j0 k l1 t323 (bt326.2 != bt317.2) l0_0 t319) else (laws_FnExactSafeToAppend.j0 k l1 t323 true l0_0 t319))))))))))) = some r := H
  have A4 := Aside0.mk A40
  clear A40
  by_cases c5 : t309 < 0
  · rw [if_pos c5] at H
    have c5b0 : decide (t309 < 0) = true := decide_eq_true c5
    clear c5
    obtain rfl := Option.some.inj H
    go_enter Try.func4, Try.ntmps4
    go_wp2_with (first | ((with_reducible refine gate_dst (N := 3) rfl ?_); refine box_event ?hg (N := 3) ?hd (cs := #[.slice A0_0 l0_0.length c0_0]) (t := 24) ?hr ?_; (case hd => rfl); (case hg => rfl); (case hr => first | (go_simp; done) | (go_simp; rfl)); intro gb308 hg w6 hbox hb; have n0_ := Aside0.mk (below_step (by repeat (first | (with_reducible first | exact HB.out | apply below_alloc | apply pw_below_drewN | apply below_drew1) | exact HB.out)) hb); have n1_ := Aside0.mk (hbox); have n2_ := Aside0.mk ((by rw [hg]; exact (below_size (by repeat (first | (with_reducible first | exact HB.out | apply below_alloc | apply pw_below_drewN | apply below_drew1) | exact HB.out))) : w.heap.size ≤ gb308)); have n3_ := Aside0.mk ((by rw [hg]; exact (below_size (by repeat (first | (with_reducible first | exact HB.out | apply below_alloc | apply pw_below_drewN | apply below_drew1) | exact HB.out))) : w.heap.size ≤ gb308)); clear HB; have HB := n0_; have BK308 := n1_; have GW308 := n2_; have GE308 := n3_; clear n0_ n1_ n2_ n3_; clear hb hbox hg; have hcz7_0 : w6.cell? ⟨gb308, 0, none⟩ = some (.slice A0_0 l0_0.length c0_0) := (blk_cell BK308.out 0).trans rfl; have hfz7_0 := blk_frozen BK308.out 0) | ((with_reducible refine gate_callee (f := 12) rfl ?_); refine goesL_ (some 16) rfl rfl Try.func12 (by kernel_rfl) rfl #[.agg #[.slice A0_0 l0_0.length c0_0], .int .i64 1048576] rfl (by (try simp only [List.map_toArray, List.map_cons, List.map_nil]); first | done | rfl | (simp only [List.length_drop, List.length_take]; rfl)) ?_; (with_reducible refine (laws_szMemory.calls k _ _ l0_0 1048576 t309 _ ?side1 ?side2 A4.out).mono ?_); (case side1 => repeat (first | exact (Kd.C_below HR0_0.out HB.out) | (with_reducible refine Kd.C_alloc ?_ _) | (with_reducible refine Kd.C_drewN ?_ _) | (with_reducible refine Kd.C_drew ?_))); (case side2 => exact HC0_0.out); rintro e w8 ⟨rfl, hb⟩; refine ⟨_, rfl, ?_⟩; have n0_ := Aside0.mk (blk_below (g := gb308) (o := .cells #[.slice A0_0 l0_0.length c0_0] 24 (0, 0)) (by (with_reducible repeat (first | refine blk_drewN ?_ _ | refine blk_drew ?_ | refine blk_alloc ?_ _)); exact BK308.out) hb); have n1_ := Aside0.mk (below_step (by repeat (first | (with_reducible first | exact HB.out | apply below_alloc | apply pw_below_drewN | apply below_drew1 | refine below_set ?_ GE308.out) | exact HB.out)) hb); clear BK308; clear HB; have BK308 := n0_; have HB := n1_; clear n0_ n1_; (try clear hb); (try clear hb2); (try clear hk); (try clear hi)))
    go_ret
    exact ⟨by first | rfl | (simp [errW_none, errW_some] <;> rfl) | (simp [*, errW_none, errW_some] <;> rfl), by repeat (first | (with_reducible first | exact HB.out | apply below_alloc | apply pw_below_drewN | apply below_drew1 | refine below_set ?_ GE308.out) | exact HB.out)⟩
  · rw [if_neg c5] at H
    have c5b0 : decide (t309 < 0) = false := decide_eq_false c5
    clear c5
    replace H := Option.bind_eq_some_iff.mp H
    obtain ⟨t310, A90, H⟩ := H
    replace H : (if t310 < 0 then (some true) else ((laws_toMemory.f k l0_0).bind fun t311 => ((laws_toWindowS.f k l1).bind fun t314 => ((spec_SafeToAppend.f k t311 t314 a2).bind fun bt317 => ((laws_toMemory.f k l0_0).bind fun t319 => ((laws_toWindowS.f k l1).bind fun t323 => ((impl_SafeToAppend.f k t319 t323 a2).bind fun bt326 => (if bt326.1 = bt317.1 then (laws_FnExactSafeToAppend.j0 k l1 t323 (bt326.2 != bt317.2) l0_0 t319) else (laws_FnExactSafeToAppend.j0 k l1 t323 true l0_0 t319))))))))) = some r := H
    have A9 := Aside0.mk A90
    clear A90
    by_cases c10 : t310 < 0
    · rw [if_pos c10] at H
      have c10b0 : decide (t310 < 0) = true := decide_eq_true c10
      clear c10
      obtain rfl := Option.some.inj H
      go_enter Try.func4, Try.ntmps4
      go_wp2_with (first | ((with_reducible refine gate_dst (N := 3) rfl ?_); refine box_event ?hg (N := 3) ?hd (cs := #[.slice A0_0 l0_0.length c0_0]) (t := 24) ?hr ?_; (case hd => rfl); (case hg => rfl); (case hr => first | (go_simp; done) | (go_simp; rfl)); intro gb308 hg w11 hbox hb; have n0_ := Aside0.mk (below_step (by repeat (first | (with_reducible first | exact HB.out | apply below_alloc | apply pw_below_drewN | apply below_drew1) | exact HB.out)) hb); have n1_ := Aside0.mk (hbox); have n2_ := Aside0.mk ((by rw [hg]; exact (below_size (by repeat (first | (with_reducible first | exact HB.out | apply below_alloc | apply pw_below_drewN | apply below_drew1) | exact HB.out))) : w.heap.size ≤ gb308)); have n3_ := Aside0.mk ((by rw [hg]; exact (below_size (by repeat (first | (with_reducible first | exact HB.out | apply below_alloc | apply pw_below_drewN | apply below_drew1) | exact HB.out))) : w.heap.size ≤ gb308)); clear HB; have HB := n0_; have BK308 := n1_; have GW308 := n2_; have GE308 := n3_; clear n0_ n1_ n2_ n3_; clear hb hbox hg; have hcz12_0 : w11.cell? ⟨gb308, 0, none⟩ = some (.slice A0_0 l0_0.length c0_0) := (blk_cell BK308.out 0).trans rfl; have hfz12_0 := blk_frozen BK308.out 0) | ((with_reducible refine gate_callee (f := 12) rfl ?_); refine goesL_ (some 16) rfl rfl Try.func12 (by kernel_rfl) rfl #[.agg #[.slice A0_0 l0_0.length c0_0], .int .i64 1048576] rfl (by (try simp only [List.map_toArray, List.map_cons, List.map_nil]); first | done | rfl | (simp only [List.length_drop, List.length_take]; rfl)) ?_; (with_reducible refine (laws_szMemory.calls k _ _ l0_0 1048576 t309 _ ?side1 ?side2 A4.out).mono ?_); (case side1 => repeat (first | exact (Kd.C_below HR0_0.out HB.out) | (with_reducible refine Kd.C_alloc ?_ _) | (with_reducible refine Kd.C_drewN ?_ _) | (with_reducible refine Kd.C_drew ?_))); (case side2 => exact HC0_0.out); rintro e w13 ⟨rfl, hb⟩; refine ⟨_, rfl, ?_⟩; have n0_ := Aside0.mk (blk_below (g := gb308) (o := .cells #[.slice A0_0 l0_0.length c0_0] 24 (0, 0)) (by (with_reducible repeat (first | refine blk_drewN ?_ _ | refine blk_drew ?_ | refine blk_alloc ?_ _)); exact BK308.out) hb); have n1_ := Aside0.mk (below_step (by repeat (first | (with_reducible first | exact HB.out | apply below_alloc | apply pw_below_drewN | apply below_drew1 | refine below_set ?_ GE308.out) | exact HB.out)) hb); clear BK308; clear HB; have BK308 := n0_; have HB := n1_; clear n0_ n1_; (try clear hb); (try clear hb2); (try clear hk); (try clear hi)) | ((with_reducible refine gate_callee (f := 22) rfl ?_); refine goesL_ (some 21) rfl rfl Try.func22 (by kernel_rfl) rfl #[.slice A1 l1.length c1, .int .i64 t309] rfl (by (try simp only [List.map_toArray, List.map_cons, List.map_nil]); first | done | rfl | (simp only [List.length_drop, List.length_take]; rfl)) ?_; (with_reducible refine (laws_szWindowS.calls _ _ l1 t309 t310 _ ?side1 ?side2 A9.out).mono ?_); (case side1 => repeat (first | exact (Kd.C_below HR1.out HB.out) | (with_reducible refine Kd.C_alloc ?_ _) | (with_reducible refine Kd.C_drewN ?_ _) | (with_reducible refine Kd.C_drew ?_))); (case side2 => exact HC1.out); rintro e w' ⟨rfl, ⟨nd, rfl⟩⟩; refine ⟨_, rfl, ?_⟩))
      go_ret
      exact ⟨by first | rfl | (simp [errW_none, errW_some] <;> rfl) | (simp [*, errW_none, errW_some] <;> rfl), by repeat (first | (with_reducible first | exact HB.out | apply below_alloc | apply pw_below_drewN | apply below_drew1 | refine below_set ?_ GE308.out) | exact HB.out)⟩
    · rw [if_neg c10] at H
      have c10b0 : decide (t310 < 0) = false := decide_eq_false c10
      clear c10
      replace H := Option.bind_eq_some_iff.mp H
      obtain ⟨t311, A140, H⟩ := H
      replace H : ((laws_toWindowS.f k l1).bind fun t314 => ((spec_SafeToAppend.f k t311 t314 a2).bind fun bt317 => ((laws_toMemory.f k l0_0).bind fun t319 => ((laws_toWindowS.f k l1).bind fun t323 => ((impl_SafeToAppend.f k t319 t323 a2).bind fun bt326 => (if bt326.1 = bt317.1 then (laws_FnExactSafeToAppend.j0 k l1 t323 (bt326.2 != bt317.2) l0_0 t319) else (laws_FnExactSafeToAppend.j0 k l1 t323 true l0_0 t319))))))) = some r := H
      have A14 := Aside0.mk A140
      clear A140
      replace H := Option.bind_eq_some_iff.mp H
      obtain ⟨t314, A150, H⟩ := H
      replace H : ((spec_SafeToAppend.f k t311 t314 a2).bind fun bt317 => ((laws_toMemory.f k l0_0).bind fun t319 => ((laws_toWindowS.f k l1).bind fun t323 => ((impl_SafeToAppend.f k t319 t323 a2).bind fun bt326 => (if bt326.1 = bt317.1 then (laws_FnExactSafeToAppend.j0 k l1 t323 (bt326.2 != bt317.2) l0_0 t319) else (laws_FnExactSafeToAppend.j0 k l1 t323 true l0_0 t319)))))) = some r := H
      have A15 := Aside0.mk A150
      clear A150
      replace H := Option.bind_eq_some_iff.mp H
      obtain ⟨⟨t317, t318⟩, A160, H⟩ := H
      replace H : ((laws_toMemory.f k l0_0).bind fun t319 => ((laws_toWindowS.f k l1).bind fun t323 => ((impl_SafeToAppend.f k t319 t323 a2).bind fun bt326 => (if bt326.1 = t317 then (laws_FnExactSafeToAppend.j0 k l1 t323 (bt326.2 != t318) l0_0 t319) else (laws_FnExactSafeToAppend.j0 k l1 t323 true l0_0 t319))))) = some r := H
      have A16 := Aside0.mk A160
      clear A160
      replace H := Option.bind_eq_some_iff.mp H
      obtain ⟨t319, A170, H⟩ := H
      replace H : ((laws_toWindowS.f k l1).bind fun t323 => ((impl_SafeToAppend.f k t319 t323 a2).bind fun bt326 => (if bt326.1 = t317 then (laws_FnExactSafeToAppend.j0 k l1 t323 (bt326.2 != t318) l0_0 t319) else (laws_FnExactSafeToAppend.j0 k l1 t323 true l0_0 t319)))) = some r := H
      have A17 := Aside0.mk A170
      clear A170
      replace H := Option.bind_eq_some_iff.mp H
      obtain ⟨t323, A180, H⟩ := H
      replace H : ((impl_SafeToAppend.f k t319 t323 a2).bind fun bt326 => (if bt326.1 = t317 then (laws_FnExactSafeToAppend.j0 k l1 t323 (bt326.2 != t318) l0_0 t319) else (laws_FnExactSafeToAppend.j0 k l1 t323 true l0_0 t319))) = some r := H
      have A18 := Aside0.mk A180
      clear A180
      replace H := Option.bind_eq_some_iff.mp H
      obtain ⟨⟨t326, t327⟩, A190, H⟩ := H
      replace H : (if t326 = t317 then (laws_FnExactSafeToAppend.j0 k l1 t323 (t327 != t318) l0_0 t319) else (laws_FnExactSafeToAppend.j0 k l1 t323 true l0_0 t319)) = some r := H
      have A19 := Aside0.mk A190
      clear A190
      have HC20 := Aside0.mk H
      clear H
      go_enter Try.func4, Try.ntmps4
      go_upto_region 12 with (first | ((with_reducible refine gate_dst (N := 3) rfl ?_); refine box_event ?hg (N := 3) ?hd (cs := #[.slice A0_0 l0_0.length c0_0]) (t := 24) ?hr ?_; (case hd => rfl); (case hg => rfl); (case hr => first | (go_simp; done) | (go_simp; rfl)); intro gb308 hg w21 hbox hb; have n0_ := Aside0.mk (below_step (by repeat (first | (with_reducible first | exact HB.out | apply below_alloc | apply pw_below_drewN | apply below_drew1) | exact HB.out)) hb); have n1_ := Aside0.mk (hbox); have n2_ := Aside0.mk ((by rw [hg]; exact (below_size (by repeat (first | (with_reducible first | exact HB.out | apply below_alloc | apply pw_below_drewN | apply below_drew1) | exact HB.out))) : w.heap.size ≤ gb308)); have n3_ := Aside0.mk ((by rw [hg]; exact (below_size (by repeat (first | (with_reducible first | exact HB.out | apply below_alloc | apply pw_below_drewN | apply below_drew1) | exact HB.out))) : w.heap.size ≤ gb308)); clear HB; have HB := n0_; have BK308 := n1_; have GW308 := n2_; have GE308 := n3_; clear n0_ n1_ n2_ n3_; clear hb hbox hg; have hcz22_0 : w21.cell? ⟨gb308, 0, none⟩ = some (.slice A0_0 l0_0.length c0_0) := (blk_cell BK308.out 0).trans rfl; have hfz22_0 := blk_frozen BK308.out 0) | ((with_reducible refine gate_callee (f := 12) rfl ?_); refine goesL_ (some 16) rfl rfl Try.func12 (by kernel_rfl) rfl #[.agg #[.slice A0_0 l0_0.length c0_0], .int .i64 1048576] rfl (by (try simp only [List.map_toArray, List.map_cons, List.map_nil]); first | done | rfl | (simp only [List.length_drop, List.length_take]; rfl)) ?_; (with_reducible refine (laws_szMemory.calls k _ _ l0_0 1048576 t309 _ ?side1 ?side2 A4.out).mono ?_); (case side1 => repeat (first | exact (Kd.C_below HR0_0.out HB.out) | (with_reducible refine Kd.C_alloc ?_ _) | (with_reducible refine Kd.C_drewN ?_ _) | (with_reducible refine Kd.C_drew ?_))); (case side2 => exact HC0_0.out); rintro e w23 ⟨rfl, hb⟩; refine ⟨_, rfl, ?_⟩; have n0_ := Aside0.mk (blk_below (g := gb308) (o := .cells #[.slice A0_0 l0_0.length c0_0] 24 (0, 0)) (by (with_reducible repeat (first | refine blk_drewN ?_ _ | refine blk_drew ?_ | refine blk_alloc ?_ _)); exact BK308.out) hb); have n1_ := Aside0.mk (below_step (by repeat (first | (with_reducible first | exact HB.out | apply below_alloc | apply pw_below_drewN | apply below_drew1 | refine below_set ?_ GE308.out) | exact HB.out)) hb); clear BK308; clear HB; have BK308 := n0_; have HB := n1_; clear n0_ n1_; (try clear hb); (try clear hb2); (try clear hk); (try clear hi)) | ((with_reducible refine gate_callee (f := 22) rfl ?_); refine goesL_ (some 21) rfl rfl Try.func22 (by kernel_rfl) rfl #[.slice A1 l1.length c1, .int .i64 t309] rfl (by (try simp only [List.map_toArray, List.map_cons, List.map_nil]); first | done | rfl | (simp only [List.length_drop, List.length_take]; rfl)) ?_; (with_reducible refine (laws_szWindowS.calls _ _ l1 t309 t310 _ ?side1 ?side2 A9.out).mono ?_); (case side1 => repeat (first | exact (Kd.C_below HR1.out HB.out) | (with_reducible refine Kd.C_alloc ?_ _) | (with_reducible refine Kd.C_drewN ?_ _) | (with_reducible refine Kd.C_drew ?_))); (case side2 => exact HC1.out); rintro e w' ⟨rfl, ⟨nd, rfl⟩⟩; refine ⟨_, rfl, ?_⟩; (try (rw [drewN_self w23]; generalize hq_ : World.drewN w23 _ = w23; have n0_ : Aside0 (w23.heap[gb308]? = some (.cells #[.slice A0_0 l0_0.length c0_0] 24 (0, 0))) := ⟨by rw [← hq_]; exact (by (with_reducible repeat (first | refine blk_drewN ?_ _ | refine blk_drew ?_ | refine blk_alloc ?_ _)); exact BK308.out)⟩; have n1_ : Aside0 (Below w.heap.size w w23) := ⟨by rw [← hq_]; exact (by repeat (first | (with_reducible first | exact HB.out | apply below_alloc | apply pw_below_drewN | apply below_drew1 | refine below_set ?_ GE308.out) | exact HB.out))⟩; clear BK308 HB hq_; have BK308 := n0_; have HB := n1_; clear n0_ n1_)); have hcz24_0 : w23.cell? ⟨gb308, 0, none⟩ = some (.slice A0_0 l0_0.length c0_0) := (blk_cell BK308.out 0).trans rfl; have hfz24_0 := blk_frozen BK308.out 0) | ((with_reducible refine gate_callee (f := 14) rfl ?_); refine goesL_ (some 26) rfl rfl Try.func14 (by kernel_rfl) rfl #[.agg #[.slice A0_0 l0_0.length c0_0]] rfl (by (try simp only [List.map_toArray, List.map_cons, List.map_nil]); first | done | rfl | (simp only [List.length_drop, List.length_take]; rfl)) ?_; (with_reducible refine (laws_toMemory.calls k _ _ l0_0 t311 _ ?side1 ?side2 A14.out).mono ?_); (case side1 => repeat (first | exact (Kd.C_below HR0_0.out HB.out) | (with_reducible refine Kd.C_alloc ?_ _) | (with_reducible refine Kd.C_drewN ?_ _) | (with_reducible refine Kd.C_drew ?_))); (case side2 => exact HC0_0.out); rintro e w25 ⟨v312, rfl, ho0, hb⟩; refine ⟨_, rfl, ?_⟩; have n0_ := Aside0.mk (Kd.S_lower ho0 (below_size (by repeat (first | (with_reducible first | exact HB.out | apply below_alloc | apply pw_below_drewN | apply below_drew1 | refine below_set ?_ GE308.out) | exact HB.out)))); have n1_ := Aside0.mk (blk_below (g := gb308) (o := .cells #[.slice A0_0 l0_0.length c0_0] 24 (0, 0)) (by (with_reducible repeat (first | refine blk_drewN ?_ _ | refine blk_drew ?_ | refine blk_alloc ?_ _)); exact BK308.out) hb); have n2_ := Aside0.mk (below_step (by repeat (first | (with_reducible first | exact HB.out | apply below_alloc | apply pw_below_drewN | apply below_drew1 | refine below_set ?_ GE308.out) | exact HB.out)) hb); clear BK308; clear HB; have HO313 := n0_; have BK308 := n1_; have HB := n2_; clear n0_ n1_ n2_; (try clear hb); (try clear hb2); (try clear hk); (try clear hi); (try clear ho0)) | ((with_reducible refine gate_callee (f := 24) rfl ?_); refine goesL_ (some 28) rfl rfl Try.func24 (by kernel_rfl) rfl #[.slice A1 l1.length c1] rfl (by (try simp only [List.map_toArray, List.map_cons, List.map_nil]); first | done | rfl | (simp only [List.length_drop, List.length_take]; rfl)) ?_; (with_reducible refine (laws_toWindowS.calls k _ _ l1 t314 _ ?side1 ?side2 A15.out).mono ?_); (case side1 => repeat (first | exact (Kd.C_below HR1.out HB.out) | (with_reducible refine Kd.C_alloc ?_ _) | (with_reducible refine Kd.C_drewN ?_ _) | (with_reducible refine Kd.C_drew ?_))); (case side2 => exact HC1.out); rintro e w26 ⟨v315, rfl, ho0, hb⟩; refine ⟨_, rfl, ?_⟩; have n0_ := Aside0.mk (Kd.S_below (by (with_reducible repeat (first | apply Kd.S_alloc | apply Kd.S_drewN | apply Kd.S_drew)); exact HO313.out) hb); have n1_ := Aside0.mk (Kd.R_lower ho0 (below_size (by repeat (first | (with_reducible first | exact HB.out | apply below_alloc | apply pw_below_drewN | apply below_drew1 | refine below_set ?_ GE308.out) | exact HB.out)))); have n2_ := Aside0.mk (blk_below (g := gb308) (o := .cells #[.slice A0_0 l0_0.length c0_0] 24 (0, 0)) (by (with_reducible repeat (first | refine blk_drewN ?_ _ | refine blk_drew ?_ | refine blk_alloc ?_ _)); exact BK308.out) hb); have n3_ := Aside0.mk (below_step (by repeat (first | (with_reducible first | exact HB.out | apply below_alloc | apply pw_below_drewN | apply below_drew1 | refine below_set ?_ GE308.out) | exact HB.out)) hb); clear HO313; clear BK308; clear HB; have HO313 := n0_; have HO316 := n1_; have BK308 := n2_; have HB := n3_; clear n0_ n1_ n2_ n3_; (try clear hb); (try clear hb2); (try clear hk); (try clear hi); (try clear ho0); obtain ⟨Ao27, co27, eo27⟩ := Kd.S_slice HO313.out; subst eo27; obtain ⟨Ao28, co28, eo28⟩ := Kd.R_slice HO316.out; subst eo28) | ((with_reducible refine gate_callee (f := 23) rfl ?_); refine goesL_ (some 30) rfl rfl Try.func23 (by kernel_rfl) rfl #[.agg #[.slice Ao27 t311.length co27], .slice Ao28 t314.length co28, .int .i64 a2] rfl (by (try simp only [List.map_toArray, List.map_cons, List.map_nil]); first | done | rfl | (simp only [List.length_drop, List.length_take]; rfl)) ?_; (with_reducible refine (spec_SafeToAppend.calls k _ _ t311 _ _ t314 a2 t317 t318 _ ?side1 ?side2 ?side3 ?side4 A16.out).mono ?_); (case side1 => repeat (first | exact (Kd.S_reads' HO313.out).2.2 | (with_reducible refine Kd.C_alloc ?_ _) | (with_reducible refine Kd.C_drewN ?_ _) | (with_reducible refine Kd.C_drew ?_))); (case side2 => exact (Kd.S_reads' HO313.out).2.1); (case side3 => repeat (first | exact (Kd.R_reads' HO316.out).2.2 | (with_reducible refine Kd.C_alloc ?_ _) | (with_reducible refine Kd.C_drewN ?_ _) | (with_reducible refine Kd.C_drew ?_))); (case side4 => exact (Kd.R_reads' HO316.out).2.1); rintro e w29 ⟨rfl, hb⟩; refine ⟨_, rfl, ?_⟩; have n0_ := Aside0.mk (Kd.S_below (by (with_reducible repeat (first | apply Kd.S_alloc | apply Kd.S_drewN | apply Kd.S_drew)); exact HO313.out) hb); have n1_ := Aside0.mk (Kd.R_below (by (with_reducible repeat (first | apply Kd.R_alloc | apply Kd.R_drewN | apply Kd.R_drew)); exact HO316.out) hb); have n2_ := Aside0.mk (blk_below (g := gb308) (o := .cells #[.slice A0_0 l0_0.length c0_0] 24 (0, 0)) (by (with_reducible repeat (first | refine blk_drewN ?_ _ | refine blk_drew ?_ | refine blk_alloc ?_ _)); exact BK308.out) hb); have n3_ := Aside0.mk (below_step (by repeat (first | (with_reducible first | exact HB.out | apply below_alloc | apply pw_below_drewN | apply below_drew1 | refine below_set ?_ GE308.out) | exact HB.out)) hb); clear HO313; clear HO316; clear BK308; clear HB; have HO313 := n0_; have HO316 := n1_; have BK308 := n2_; have HB := n3_; clear n0_ n1_ n2_ n3_; (try clear hb); (try clear hb2); (try clear hk); (try clear hi); have hcz30_0 : w29.cell? ⟨gb308, 0, none⟩ = some (.slice A0_0 l0_0.length c0_0) := (blk_cell BK308.out 0).trans rfl; have hfz30_0 := blk_frozen BK308.out 0) | ((with_reducible refine gate_callee (f := 14) rfl ?_); refine goesL_ (some 34) rfl rfl Try.func14 (by kernel_rfl) rfl #[.agg #[.slice A0_0 l0_0.length c0_0]] rfl (by (try simp only [List.map_toArray, List.map_cons, List.map_nil]); first | done | rfl | (simp only [List.length_drop, List.length_take]; rfl)) ?_; (with_reducible refine (laws_toMemory.calls k _ _ l0_0 t319 _ ?side1 ?side2 A17.out).mono ?_); (case side1 => repeat (first | exact (Kd.C_below HR0_0.out HB.out) | (with_reducible refine Kd.C_alloc ?_ _) | (with_reducible refine Kd.C_drewN ?_ _) | (with_reducible refine Kd.C_drew ?_))); (case side2 => exact HC0_0.out); rintro e w31 ⟨v320, rfl, ho0, hb⟩; refine ⟨_, rfl, ?_⟩; have n0_ := Aside0.mk (Kd.S_elder' (by (with_reducible repeat (first | apply Kd.S_alloc | apply Kd.S_drewN | apply Kd.S_drew)); exact HO313.out) (Kd.S_base ho0) hb); have n1_ := Aside0.mk (Kd.R_below (by (with_reducible repeat (first | apply Kd.R_alloc | apply Kd.R_drewN | apply Kd.R_drew)); exact HO316.out) hb); have n2_ := Aside0.mk (Kd.S_lower (Kd.S_new' ho0 (Kd.S_lt (by (with_reducible repeat (first | apply Kd.S_alloc | apply Kd.S_drewN | apply Kd.S_drew)); exact HO313.out))) (below_size (by repeat (first | (with_reducible first | exact HB.out | apply below_alloc | apply pw_below_drewN | apply below_drew1 | refine below_set ?_ GE308.out) | exact HB.out)))); have n3_ := Aside0.mk (blk_below (g := gb308) (o := .cells #[.slice A0_0 l0_0.length c0_0] 24 (0, 0)) (by (with_reducible repeat (first | refine blk_drewN ?_ _ | refine blk_drew ?_ | refine blk_alloc ?_ _)); exact BK308.out) hb); have n4_ := Aside0.mk (below_step (by repeat (first | (with_reducible first | exact HB.out | apply below_alloc | apply pw_below_drewN | apply below_drew1 | refine below_set ?_ GE308.out) | exact HB.out)) hb); clear HO313; clear HO316; clear BK308; clear HB; have HO313 := n0_; have HO316 := n1_; have HO321 := n2_; have BK308 := n3_; have HB := n4_; clear n0_ n1_ n2_ n3_ n4_; (try clear hb); (try clear hb2); (try clear hk); (try clear hi); (try clear ho0)) | ((with_reducible refine gate_dst (N := 10) rfl ?_); refine box_event ?hg (N := 10) ?hd (cs := #[.slice none 0 0]) (t := 31) ?hr ?_; (case hd => rfl); (case hg => rfl); (case hr => first | (go_simp; done) | (go_simp; rfl)); intro gb322 hg w32 hbox hb; have n0_ := Aside0.mk (Kd.S_below (by (with_reducible repeat (first | apply Kd.S_alloc | apply Kd.S_drewN | apply Kd.S_drew)); exact HO313.out) hb); have n1_ := Aside0.mk (Kd.R_below (by (with_reducible repeat (first | apply Kd.R_alloc | apply Kd.R_drewN | apply Kd.R_drew)); exact HO316.out) hb); have n2_ := Aside0.mk (Kd.S_below (by (with_reducible repeat (first | apply Kd.S_alloc | apply Kd.S_drewN | apply Kd.S_drew)); exact HO321.out) hb); have n3_ := Aside0.mk (blk_below (g := gb308) (o := .cells #[.slice A0_0 l0_0.length c0_0] 24 (0, 0)) (by (with_reducible repeat (first | refine blk_drewN ?_ _ | refine blk_drew ?_ | refine blk_alloc ?_ _)); exact BK308.out) hb); have n4_ := Aside0.mk (below_step (by repeat (first | (with_reducible first | exact HB.out | apply below_alloc | apply pw_below_drewN | apply below_drew1 | refine below_set ?_ GE308.out) | exact HB.out)) hb); have n5_ := Aside0.mk (hbox); have n6_ := Aside0.mk ((by rw [hg]; exact (below_size (by repeat (first | (with_reducible first | exact HB.out | apply below_alloc | apply pw_below_drewN | apply below_drew1 | refine below_set ?_ GE308.out) | exact HB.out))) : w.heap.size ≤ gb322)); have n7_ := Aside0.mk ((by rw [hg]; exact (below_size (by repeat (first | (with_reducible first | exact HB.out | apply below_alloc | apply pw_below_drewN | apply below_drew1 | refine below_set ?_ GE308.out) | exact HB.out))) : w.heap.size ≤ gb322)); have n8_ := Aside0.mk ((by rw [hg]; exact Nat.ne_of_lt (blk_lt (g := gb308) (o := .cells #[.slice A0_0 l0_0.length c0_0] 24 (0, 0)) (by (with_reducible repeat (first | refine blk_drewN ?_ _ | refine blk_drew ?_ | refine blk_alloc ?_ _)); exact BK308.out)) : gb308 ≠ gb322)); have n9_ := Aside0.mk ((by rw [hg]; exact Nat.ne_of_gt (blk_lt (g := gb308) (o := .cells #[.slice A0_0 l0_0.length c0_0] 24 (0, 0)) (by (with_reducible repeat (first | refine blk_drewN ?_ _ | refine blk_drew ?_ | refine blk_alloc ?_ _)); exact BK308.out)) : gb322 ≠ gb308)); clear HO313; clear HO316; clear HO321; clear BK308; clear HB; have HO313 := n0_; have HO316 := n1_; have HO321 := n2_; have BK308 := n3_; have HB := n4_; have BK322 := n5_; have GW322 := n6_; have GE322 := n7_; have NB308_322 := n8_; have NB322_308 := n9_; clear n0_ n1_ n2_ n3_ n4_ n5_ n6_ n7_ n8_ n9_; clear hb hbox hg; obtain ⟨Ao33, co33, eo33⟩ := Kd.S_slice HO321.out; subst eo33; have hnb34 := NB322_308.out; have hnc34 := NB308_322.out; have hcz35_0 : w32.cell? ⟨gb322, 0, none⟩ = some (.slice none 0 0) := (blk_cell BK322.out 0).trans rfl; have hfz35_0 := blk_frozen BK322.out 0) | ((with_reducible refine gate_callee (f := 24) rfl ?_); refine goesL_ (some 36) rfl rfl Try.func24 (by kernel_rfl) rfl #[.slice A1 l1.length c1] rfl (by (try simp only [List.map_toArray, List.map_cons, List.map_nil]); first | done | rfl | (simp only [List.length_drop, List.length_take]; rfl)) ?_; (with_reducible refine (laws_toWindowS.calls k _ _ l1 t323 _ ?side1 ?side2 A18.out).mono ?_); (case side1 => exact Kd.C_below HR1.out (by repeat (first | (with_reducible first | exact HB.out | apply below_alloc | apply pw_below_drewN | apply below_drew1 | refine below_set ?_ GE308.out | refine below_set ?_ GE322.out) | exact HB.out))); (case side2 => exact HC1.out); rintro e w36 ⟨v324, rfl, ho0, hb⟩; refine ⟨_, rfl, ?_⟩; have n0_ := Aside0.mk (Kd.S_below (by (with_reducible repeat (first | apply Kd.S_alloc | apply Kd.S_drewN | apply Kd.S_drew)); exact (Kd.S_mono (Kd.S_far (p := ⟨gb322, 0, none⟩) (Kd.S_types HO313.out BK322.out (by decide)) (fun _ hk => hk.2) (.slice Ao33 t319.length co33)) (fun _ h_ => h_.1))) hb); have n1_ := Aside0.mk (Kd.R_elder' (by (with_reducible repeat (first | apply Kd.R_alloc | apply Kd.R_drewN | apply Kd.R_drew)); exact (Kd.R_mono (Kd.R_far (p := ⟨gb322, 0, none⟩) (Kd.R_types HO316.out BK322.out (by decide)) (fun _ hk => hk.2) (.slice Ao33 t319.length co33)) (fun _ h_ => h_.1))) (Kd.R_base ho0) hb); have n2_ := Aside0.mk (Kd.S_below (by (with_reducible repeat (first | apply Kd.S_alloc | apply Kd.S_drewN | apply Kd.S_drew)); exact (Kd.S_mono (Kd.S_far (p := ⟨gb322, 0, none⟩) (Kd.S_types HO321.out BK322.out (by decide)) (fun _ hk => hk.2) (.slice Ao33 t319.length co33)) (fun _ h_ => h_.1))) hb); have n3_ := Aside0.mk (Kd.R_lower (Kd.R_new' ho0 (Kd.R_lt (by (with_reducible repeat (first | apply Kd.R_alloc | apply Kd.R_drewN | apply Kd.R_drew)); exact (Kd.R_mono (Kd.R_far (p := ⟨gb322, 0, none⟩) (Kd.R_types HO316.out BK322.out (by decide)) (fun _ hk => hk.2) (.slice Ao33 t319.length co33)) (fun _ h_ => h_.1))))) (below_size (by repeat (first | (with_reducible first | exact HB.out | apply below_alloc | apply pw_below_drewN | apply below_drew1 | refine below_set ?_ GE308.out | refine below_set ?_ GE322.out) | exact HB.out)))); have n4_ := Aside0.mk (blk_below (g := gb308) (o := .cells #[.slice A0_0 l0_0.length c0_0] 24 (0, 0)) (by (with_reducible repeat (first | refine blk_drewN ?_ _ | refine blk_drew ?_ | refine blk_alloc ?_ _)); refine blk_far ?_ NB308_322.out _; (with_reducible repeat (first | refine blk_drewN ?_ _ | refine blk_drew ?_ | refine blk_alloc ?_ _)); exact BK308.out) hb); have n5_ := Aside0.mk (blk_below (g := gb322) (o := .cells #[.slice Ao33 t319.length co33] 31 (0, 0)) (by (with_reducible repeat (first | refine blk_drewN ?_ _ | refine blk_drew ?_ | refine blk_alloc ?_ _)); refine blk_put (cs := #[.slice none 0 0]) ?_ 0 _ rfl; (with_reducible repeat (first | refine blk_drewN ?_ _ | refine blk_drew ?_ | refine blk_alloc ?_ _)); exact BK322.out) hb); have n6_ := Aside0.mk (below_step (by repeat (first | (with_reducible first | exact HB.out | apply below_alloc | apply pw_below_drewN | apply below_drew1 | refine below_set ?_ GE308.out | refine below_set ?_ GE322.out) | exact HB.out)) hb); clear HO313; clear HO316; clear HO321; clear BK308; clear BK322; clear HB; have HO313 := n0_; have HO316 := n1_; have HO321 := n2_; have HO325 := n3_; have BK308 := n4_; have BK322 := n5_; have HB := n6_; clear n0_ n1_ n2_ n3_ n4_ n5_ n6_; (try clear hb); (try clear hb2); (try clear hk); (try clear hi); (try clear ho0); have hcz37_0 : w36.cell? ⟨gb322, 0, none⟩ = some (.slice Ao33 t319.length co33) := (blk_cell BK322.out 0).trans rfl; have hfz37_0 := blk_frozen BK322.out 0; obtain ⟨Ao38, co38, eo38⟩ := Kd.R_slice HO325.out; subst eo38) | ((with_reducible refine gate_callee (f := 25) rfl ?_); refine goesL_ (some 41) rfl rfl Try.func25 (by kernel_rfl) rfl #[.agg #[.slice Ao33 t319.length co33], .slice Ao38 t323.length co38, .int .i64 a2] rfl (by (try simp only [List.map_toArray, List.map_cons, List.map_nil]); first | done | rfl | (simp only [List.length_drop, List.length_take]; rfl)) ?_; (with_reducible refine (impl_SafeToAppend.calls k _ _ t319 _ _ t323 a2 t326 t327 _ ?side1 ?side2 ?side3 ?side4 A19.out).mono ?_); (case side1 => repeat (first | exact (Kd.S_reads' HO321.out).2.2 | (with_reducible refine Kd.C_alloc ?_ _) | (with_reducible refine Kd.C_drewN ?_ _) | (with_reducible refine Kd.C_drew ?_))); (case side2 => exact (Kd.S_reads' HO321.out).2.1); (case side3 => repeat (first | exact (Kd.R_reads' HO325.out).2.2 | (with_reducible refine Kd.C_alloc ?_ _) | (with_reducible refine Kd.C_drewN ?_ _) | (with_reducible refine Kd.C_drew ?_))); (case side4 => exact (Kd.R_reads' HO325.out).2.1); rintro e w39 ⟨rfl, hb⟩; refine ⟨_, rfl, ?_⟩; have n0_ := Aside0.mk (Kd.S_below (by (with_reducible repeat (first | apply Kd.S_alloc | apply Kd.S_drewN | apply Kd.S_drew)); exact HO313.out) hb); have n1_ := Aside0.mk (Kd.R_below (by (with_reducible repeat (first | apply Kd.R_alloc | apply Kd.R_drewN | apply Kd.R_drew)); exact HO316.out) hb); have n2_ := Aside0.mk (Kd.S_below (by (with_reducible repeat (first | apply Kd.S_alloc | apply Kd.S_drewN | apply Kd.S_drew)); exact HO321.out) hb); have n3_ := Aside0.mk (Kd.R_below (by (with_reducible repeat (first | apply Kd.R_alloc | apply Kd.R_drewN | apply Kd.R_drew)); exact HO325.out) hb); have n4_ := Aside0.mk (blk_below (g := gb308) (o := .cells #[.slice A0_0 l0_0.length c0_0] 24 (0, 0)) (by (with_reducible repeat (first | refine blk_drewN ?_ _ | refine blk_drew ?_ | refine blk_alloc ?_ _)); exact BK308.out) hb); have n5_ := Aside0.mk (blk_below (g := gb322) (o := .cells #[.slice Ao33 t319.length co33] 31 (0, 0)) (by (with_reducible repeat (first | refine blk_drewN ?_ _ | refine blk_drew ?_ | refine blk_alloc ?_ _)); exact BK322.out) hb); have n6_ := Aside0.mk (below_step (by repeat (first | (with_reducible first | exact HB.out | apply below_alloc | apply pw_below_drewN | apply below_drew1 | refine below_set ?_ GE308.out | refine below_set ?_ GE322.out) | exact HB.out)) hb); clear HO313; clear HO316; clear HO321; clear HO325; clear BK308; clear BK322; clear HB; have HO313 := n0_; have HO316 := n1_; have HO321 := n2_; have HO325 := n3_; have BK308 := n4_; have BK322 := n5_; have HB := n6_; clear n0_ n1_ n2_ n3_ n4_ n5_ n6_; (try clear hb); (try clear hb2); (try clear hk); (try clear hi)))
      (try simp only [Act.put, List.setIfInBounds_toArray, List.set_cons_zero, List.set_cons_succ])
      go_cut [51] (fun v51 wc => ∃ (kq : Nat) (x51_19 : Bool), v51 = .bool x51_19 ∧ Aside0 (laws_FnExactSafeToAppend.j0 kq l1 t323 x51_19 l0_0 t319 = some r) ∧ Aside0 (kq ≤ k) ∧ Aside0 (Kd.R k33 33 wc w.heap.size (fun _ => True) (.slice Ao38 t323.length co38) t323) ∧ Aside0 (Kd.S (Kd.slice 5 (Kd.int .u8)) 28 wc w.heap.size (fun _ => True) (.slice Ao33 t319.length co33) t319) ∧ Aside0 (wc.heap[gb308]? = some (.cells #[(.slice A0_0 l0_0.length c0_0)] 24 (0, 0))) ∧ Aside0 (wc.heap[gb322]? = some (.cells #[(.slice Ao33 t319.length co33)] 31 (0, 0))) ∧ Aside0 (Below w.heap.size w wc))
      case first =>
        have H := HC20.out
        clear HC20
        by_cases c40 : t326 = t317
        · rw [if_pos c40] at H
          have c40b0 : (t326 == t317) = true := beq_iff_eq.mpr c40
          have c40b1 : (t326 != t317) = false := bne_eq_false_iff_eq.mpr c40
          clear c40
          (first | rw [c40b0] | (simp only [i64_w, i32_w]; rw [c40b0]) | skip)
          have H' := Aside0.mk H
          clear H
          go_wp2
          go_meet
          case rel => exact ⟨_, ((t327 != t318)), (by first | rfl | (simp; done) | (simp [*]; done)), H', ⟨by first | omega | exact Nat.le_refl _⟩, ⟨by (with_reducible repeat (first | apply Kd.R_alloc | apply Kd.R_drewN | apply Kd.R_drew)); exact Kd.R_mono HO325.out (fun _ hk => trivial)⟩, ⟨by (with_reducible repeat (first | apply Kd.S_alloc | apply Kd.S_drewN | apply Kd.S_drew)); exact Kd.S_mono HO321.out (fun _ hk => trivial)⟩, ⟨by (with_reducible repeat (first | refine blk_drewN ?_ _ | refine blk_drew ?_ | refine blk_alloc ?_ _)); exact BK308.out⟩, ⟨by (with_reducible repeat (first | refine blk_drewN ?_ _ | refine blk_drew ?_ | refine blk_alloc ?_ _)); exact BK322.out⟩, ⟨by repeat (first | (with_reducible first | exact HB.out | apply below_alloc | apply pw_below_drewN | apply below_drew1 | refine below_set ?_ GE308.out | refine below_set ?_ GE322.out) | exact HB.out)⟩⟩
        · rw [if_neg c40] at H
          have c40b0 : (t326 == t317) = false := beq_eq_false_iff_ne.mpr c40
          have c40b1 : (t326 != t317) = true := bne_iff_ne.mpr c40
          (first | rw [c40b0] | (simp only [i64_w, i32_w]; rw [c40b0]) | skip)
          have H' := Aside0.mk H
          clear H
          go_wp2
          go_meet
          case rel => exact ⟨_, (true), (by first | rfl | (simp; done) | (simp [*]; done)), H', ⟨by first | omega | exact Nat.le_refl _⟩, ⟨by (with_reducible repeat (first | apply Kd.R_alloc | apply Kd.R_drewN | apply Kd.R_drew)); exact Kd.R_mono HO325.out (fun _ hk => trivial)⟩, ⟨by (with_reducible repeat (first | apply Kd.S_alloc | apply Kd.S_drewN | apply Kd.S_drew)); exact Kd.S_mono HO321.out (fun _ hk => trivial)⟩, ⟨by (with_reducible repeat (first | refine blk_drewN ?_ _ | refine blk_drew ?_ | refine blk_alloc ?_ _)); exact BK308.out⟩, ⟨by (with_reducible repeat (first | refine blk_drewN ?_ _ | refine blk_drew ?_ | refine blk_alloc ?_ _)); exact BK322.out⟩, ⟨by repeat (first | (with_reducible first | exact HB.out | apply below_alloc | apply pw_below_drewN | apply below_drew1 | refine below_set ?_ GE308.out | refine below_set ?_ GE322.out) | exact HB.out)⟩⟩
      case rest =>
        clear HC20
        try clear c1
        try clear c2
        try clear p2
        try clear c3
        try clear c4
        try clear c5
        try clear c5b0
        try clear c10
        try clear c10b0
        try clear c12
        try clear c14
        try clear c22
        try clear c23
        try clear c24
        try clear c25
        try clear c34
        try clear c40
        try clear c40b0
        try clear c40b1
        try clear hcz12_0
        try clear hcz22_0
        try clear hcz24_0
        try clear hcz30_0
        try clear hcz35_0
        try clear hcz37_0
        try clear hcz7_0
        try clear hfz12_0
        try clear hfz22_0
        try clear hfz24_0
        try clear hfz30_0
        try clear hfz35_0
        try clear hfz37_0
        try clear hfz7_0
        obtain ⟨kq, x51_19, rfl, HA, HJ19, HO_11, HO_323000, BK308, BK322, HB⟩ := hcut
        cases kq with
        | zero => exact absurd HA.out (by simp [laws_FnExactSafeToAppend.j0])
        | succ kj19 =>
          have H := HA.out
          clear HA
          simp only [laws_FnExactSafeToAppend.j0] at H
          by_cases c41 : x51_19 = true
          · subst c41
            have H1 : (some false) = some r := by rw [if_pos rfl] at H; exact H
            clear H
            have H := H1
            clear H1
            obtain rfl := Option.some.inj H
            go_wp2
            go_ret
            exact ⟨by first | rfl | (simp [errW_none, errW_some] <;> rfl) | (simp [*, errW_none, errW_some] <;> rfl), by repeat (first | (with_reducible first | exact HB.out | apply below_alloc | apply pw_below_drewN | apply below_drew1 | refine below_set ?_ GE308.out | refine below_set ?_ GE322.out) | exact HB.out)⟩
          · replace c41 := Bool.eq_false_iff.mpr c41
            subst c41
            have H1 : ((laws_toMemory.f kj19 l0_0).bind fun t328 => ((laws_eqMemory.f kj19 t319 t328).bind fun t331 => (if t331 = true then ((laws_toWindowS.f kj19 l1).bind fun t332 => ((laws_eqWindowS.f kj19 t323 t332).bind fun t335 => (if t335 = true then (some true) else (some false)))) else (some false)))) = some r := by rw [if_neg (show ¬ (false = true) by decide)] at H; exact H
            clear H
            have H := H1
            clear H1
            replace H := Option.bind_eq_some_iff.mp H
            obtain ⟨t328, A420, H⟩ := H
            replace H : ((laws_eqMemory.f kj19 t319 t328).bind fun t331 => (if t331 = true then ((laws_toWindowS.f kj19 l1).bind fun t332 => ((laws_eqWindowS.f kj19 t323 t332).bind fun t335 => (if t335 = true then (some true) else (some false)))) else (some false))) = some r := H
            have A42 := Aside0.mk A420
            clear A420
            replace H := Option.bind_eq_some_iff.mp H
            obtain ⟨t331, A430, H⟩ := H
            replace H : (if t331 = true then ((laws_toWindowS.f kj19 l1).bind fun t332 => ((laws_eqWindowS.f kj19 t323 t332).bind fun t335 => (if t335 = true then (some true) else (some false)))) else (some false)) = some r := H
            have A43 := Aside0.mk A430
            clear A430
            by_cases c44 : t331 = true
            · subst c44
              have H1 : ((laws_toWindowS.f kj19 l1).bind fun t332 => ((laws_eqWindowS.f kj19 t323 t332).bind fun t335 => (if t335 = true then (some true) else (some false)))) = some r := by rw [if_pos rfl] at H; exact H
              clear H
              have H := H1
              clear H1
              replace H := Option.bind_eq_some_iff.mp H
              obtain ⟨t332, A450, H⟩ := H
              replace H : ((laws_eqWindowS.f kj19 t323 t332).bind fun t335 => (if t335 = true then (some true) else (some false))) = some r := H
              have A45 := Aside0.mk A450
              clear A450
              replace H := Option.bind_eq_some_iff.mp H
              obtain ⟨t335, A460, H⟩ := H
              replace H : (if t335 = true then (some true) else (some false)) = some r := H
              have A46 := Aside0.mk A460
              clear A460
              by_cases c47 : t335 = true
              · subst c47
                have H1 : (some true) = some r := by rw [if_pos rfl] at H; exact H
                clear H
                have H := H1
                clear H1
                obtain rfl := Option.some.inj H
                try go_wp2
                have n0_ := Aside0.mk (Kd.R_drew HO_11.out)
                have n1_ := Aside0.mk (Kd.S_drew HO_323000.out)
                have n2_ := Aside0.mk (blk_drew BK308.out)
                have n3_ := Aside0.mk (blk_drew BK322.out)
                have n4_ := Aside0.mk (below_drew1 HB.out)
                clear HO_11
                clear HO_323000
                clear BK308
                clear BK322
                clear HB
                have HO_11 := n0_
                have HO_323000 := n1_
                have BK308 := n2_
                have BK322 := n3_
                have HB := n4_
                clear n0_ n1_ n2_ n3_ n4_
                refine start_ (n := 5) (S := fun w' => w'.cell? ⟨gb322, 0, none⟩ = some (.slice Ao33 t319.length co33) ∧ w'.cell? ⟨gb308, 0, none⟩ = some (.slice A0_0 l0_0.length c0_0)) (ds := []) #[false, false, false, false, false] (by kernel_rfl) rfl rfl ⟨(blk_cell BK322.out 0).trans rfl, (blk_cell BK308.out 0).trans rfl⟩ (fun hHeld => ?_)
                generalize wc.drew = w48 at HO_11 HO_323000 BK308 BK322 HB hHeld ⊢
                refine take_ (i := 0) (N := some 52) (v := ?_) (a' := ?_) #[true, false, false, false, false] rfl rfl (by kernel_rfl) (fun _ _ _ h => h) (Or.inl ⟨by rfl, ?_⟩) hHeld ?_ ?_
                rotate_left
                · rintro w' ⟨s0, s1⟩
                  go_simp
                  with_reducible rfl
                rotate_left
                · simp only [Act.put, List.setIfInBounds_toArray, List.set_cons_zero, List.set_cons_succ, i64_w, i32_w]
                  rfl
                refine take_ (i := 1) (N := some 53) (v := ?_) (a' := ?_) #[true, true, false, false, false] rfl rfl (by kernel_rfl) (fun _ _ _ h => h) (Or.inl ⟨by rfl, ?_⟩) hHeld ?_ ?_
                rotate_left
                · rintro w' ⟨s0, s1⟩
                  go_simp
                  with_reducible rfl
                rotate_left
                · simp only [Act.put, List.setIfInBounds_toArray, List.set_cons_zero, List.set_cons_succ, i64_w, i32_w]
                  rfl
                refine one_ (i := 2) (N := some 54) #[true, true, true, false, false] rfl rfl (by kernel_rfl) (by decide) (fun K hK => ?_)
                refine goes_ Try.func14 (by kernel_rfl) rfl #[.agg #[.slice A0_0 l0_0.length c0_0]] (by rfl) rfl rfl (by (try simp only [List.map_toArray, List.map_cons, List.map_nil]); first | done | rfl | (simp only [List.length_drop, List.length_take]; rfl)) ?_
                with_reducible refine (laws_toMemory.calls kj19 _ _ l0_0 t328 _ ?side1 ?side2 A42.out).mono ?_
                (case side1 => repeat (first | exact (Kd.C_below HR0_0.out HB.out) | (with_reducible refine Kd.C_alloc ?_ _) | (with_reducible refine Kd.C_drewN ?_ _) | (with_reducible refine Kd.C_drew ?_)))
                (case side2 => exact HC0_0.out)
                rintro e w49 ⟨v329, rfl, ho0, hb⟩
                refine ⟨_, rfl, ?_⟩
                have n0_ := Aside0.mk (Kd.R_below (by (with_reducible repeat (first | apply Kd.R_alloc | apply Kd.R_drewN | apply Kd.R_drew)); exact HO_11.out) hb)
                have n1_ := Aside0.mk (Kd.S_elder' (by (with_reducible repeat (first | apply Kd.S_alloc | apply Kd.S_drewN | apply Kd.S_drew)); exact HO_323000.out) (Kd.S_base ho0) hb)
                have n2_ := Aside0.mk (Kd.S_lower (Kd.S_new' ho0 (Kd.S_lt (by (with_reducible repeat (first | apply Kd.S_alloc | apply Kd.S_drewN | apply Kd.S_drew)); exact HO_323000.out))) (below_size (by repeat (first | (with_reducible first | exact HB.out | apply below_alloc | apply pw_below_drewN | apply below_drew1 | refine below_set ?_ GE308.out | refine below_set ?_ GE322.out) | exact HB.out))))
                have n3_ := Aside0.mk (blk_below (g := gb308) (o := .cells #[.slice A0_0 l0_0.length c0_0] 24 (0, 0)) (by (with_reducible repeat (first | refine blk_drewN ?_ _ | refine blk_drew ?_ | refine blk_alloc ?_ _)); exact BK308.out) hb)
                have n4_ := Aside0.mk (blk_below (g := gb322) (o := .cells #[.slice Ao33 t319.length co33] 31 (0, 0)) (by (with_reducible repeat (first | refine blk_drewN ?_ _ | refine blk_drew ?_ | refine blk_alloc ?_ _)); exact BK322.out) hb)
                have n5_ := Aside0.mk (below_step (by repeat (first | (with_reducible first | exact HB.out | apply below_alloc | apply pw_below_drewN | apply below_drew1 | refine below_set ?_ GE308.out | refine below_set ?_ GE322.out) | exact HB.out)) hb)
                clear HO_11
                clear HO_323000
                clear BK308
                clear BK322
                clear HB
                have HO_11 := n0_
                have HO_323000 := n1_
                have HO330 := n2_
                have BK308 := n3_
                have BK322 := n4_
                have HB := n5_
                clear n0_ n1_ n2_ n3_ n4_ n5_
                (try clear hb)
                (try clear hb2)
                (try clear hk)
                (try clear hi)
                (try clear ho0)
                obtain ⟨Ao50, co50, eo50⟩ := Kd.S_slice HO330.out
                (first | subst eo50 | (injection eo50 with f1_ f2_ f3_; have f4_ := f1_.symm; have f5_ := f3_.symm; clear f1_ f2_ f3_; subst f4_; subst f5_))
                refine hK.out _ _ ⟨(blk_cell BK322.out 0).trans rfl, (blk_cell BK308.out 0).trans rfl⟩ (fun hHeld => ?_)
                clear hK K
                refine norm_ (a' := ?_) ?_ ?_
                rotate_left
                · show Act.put _ (some 54) _ = _
                  simp only [Act.put, List.setIfInBounds_toArray, List.set_cons_zero, List.set_cons_succ, i64_w, i32_w]
                  rfl
                refine one_ (i := 3) (N := some 55) #[true, true, true, true, false] rfl rfl (by kernel_rfl) (by decide) (fun K hK => ?_)
                refine goes_ Try.func18 (by kernel_rfl) rfl #[.agg #[.slice Ao33 t319.length co33], .agg #[.slice Ao50 t328.length co50]] (by rfl) rfl rfl (by (try simp only [List.map_toArray, List.map_cons, List.map_nil]); first | done | rfl | (simp only [List.length_drop, List.length_take]; rfl)) ?_
                with_reducible refine (laws_eqMemory.calls kj19 _ _ t319 _ _ t328 true _ ?side1 ?side2 ?side3 ?side4 A43.out).mono ?_
                (case side1 => repeat (first | exact (Kd.S_reads' HO_323000.out).2.2 | (with_reducible refine Kd.C_alloc ?_ _) | (with_reducible refine Kd.C_drewN ?_ _) | (with_reducible refine Kd.C_drew ?_)))
                (case side2 => exact (Kd.S_reads' HO_323000.out).2.1)
                (case side3 => repeat (first | exact (Kd.S_reads' HO330.out).2.2 | (with_reducible refine Kd.C_alloc ?_ _) | (with_reducible refine Kd.C_drewN ?_ _) | (with_reducible refine Kd.C_drew ?_)))
                (case side4 => exact (Kd.S_reads' HO330.out).2.1)
                rintro e w51 ⟨rfl, hb⟩
                refine ⟨_, rfl, ?_⟩
                have n0_ := Aside0.mk (Kd.R_below (by (with_reducible repeat (first | apply Kd.R_alloc | apply Kd.R_drewN | apply Kd.R_drew)); exact HO_11.out) hb)
                have n1_ := Aside0.mk (Kd.S_below (by (with_reducible repeat (first | apply Kd.S_alloc | apply Kd.S_drewN | apply Kd.S_drew)); exact HO_323000.out) hb)
                have n2_ := Aside0.mk (Kd.S_below (by (with_reducible repeat (first | apply Kd.S_alloc | apply Kd.S_drewN | apply Kd.S_drew)); exact HO330.out) hb)
                have n3_ := Aside0.mk (blk_below (g := gb308) (o := .cells #[.slice A0_0 l0_0.length c0_0] 24 (0, 0)) (by (with_reducible repeat (first | refine blk_drewN ?_ _ | refine blk_drew ?_ | refine blk_alloc ?_ _)); exact BK308.out) hb)
                have n4_ := Aside0.mk (blk_below (g := gb322) (o := .cells #[.slice Ao33 t319.length co33] 31 (0, 0)) (by (with_reducible repeat (first | refine blk_drewN ?_ _ | refine blk_drew ?_ | refine blk_alloc ?_ _)); exact BK322.out) hb)
                have n5_ := Aside0.mk (below_step (by repeat (first | (with_reducible first | exact HB.out | apply below_alloc | apply pw_below_drewN | apply below_drew1 | refine below_set ?_ GE308.out | refine below_set ?_ GE322.out) | exact HB.out)) hb)
                clear HO_11
                clear HO_323000
                clear HO330
                clear BK308
                clear BK322
                clear HB
                have HO_11 := n0_
                have HO_323000 := n1_
                have HO330 := n2_
                have BK308 := n3_
                have BK322 := n4_
                have HB := n5_
                clear n0_ n1_ n2_ n3_ n4_ n5_
                (try clear hb)
                (try clear hb2)
                (try clear hk)
                (try clear hi)
                refine hK.out _ _ ⟨(blk_cell BK322.out 0).trans rfl, (blk_cell BK308.out 0).trans rfl⟩ (fun hHeld => ?_)
                clear hK K
                refine norm_ (a' := ?_) ?_ ?_
                rotate_left
                · show Act.put _ (some 55) _ = _
                  simp only [Act.put, List.setIfInBounds_toArray, List.set_cons_zero, List.set_cons_succ, i64_w, i32_w]
                  rfl
                refine pure_ (i := 4) (N := some 56) (v := ?_) (a' := ?_) #[true, true, true, true, true] rfl rfl (by kernel_rfl) (fun _ _ _ h => h) (Or.inl ⟨by rfl, ?_⟩) ?_ ?_
                rotate_left
                · intro w'
                  go_simp
                  with_reducible rfl
                rotate_left
                · simp only [Act.put, List.setIfInBounds_toArray, List.set_cons_zero, List.set_cons_succ, i64_w, i32_w]
                  rfl
                refine done_ (by kernel_rfl) ?_
                try go_wp2_with (first | ((with_reducible refine gate_callee (f := 24) rfl ?_); refine goesL_ (some 59) rfl rfl Try.func24 (by kernel_rfl) rfl #[.slice A1 l1.length c1] rfl (by (try simp only [List.map_toArray, List.map_cons, List.map_nil]); first | done | rfl | (simp only [List.length_drop, List.length_take]; rfl)) ?_; (with_reducible refine (laws_toWindowS.calls kj19 _ _ l1 t332 _ ?side1 ?side2 A45.out).mono ?_); (case side1 => repeat (first | exact (Kd.C_below HR1.out HB.out) | (with_reducible refine Kd.C_alloc ?_ _) | (with_reducible refine Kd.C_drewN ?_ _) | (with_reducible refine Kd.C_drew ?_))); (case side2 => exact HC1.out); rintro e w52 ⟨v333, rfl, ho0, hb⟩; refine ⟨_, rfl, ?_⟩; have n0_ := Aside0.mk (Kd.R_elder' (by (with_reducible repeat (first | apply Kd.R_alloc | apply Kd.R_drewN | apply Kd.R_drew)); exact HO_11.out) (Kd.R_base ho0) hb); have n1_ := Aside0.mk (Kd.S_below (by (with_reducible repeat (first | apply Kd.S_alloc | apply Kd.S_drewN | apply Kd.S_drew)); exact HO_323000.out) hb); have n2_ := Aside0.mk (Kd.S_below (by (with_reducible repeat (first | apply Kd.S_alloc | apply Kd.S_drewN | apply Kd.S_drew)); exact HO330.out) hb); have n3_ := Aside0.mk (Kd.R_lower (Kd.R_new' ho0 (Kd.R_lt (by (with_reducible repeat (first | apply Kd.R_alloc | apply Kd.R_drewN | apply Kd.R_drew)); exact HO_11.out))) (below_size (by repeat (first | (with_reducible first | exact HB.out | apply below_alloc | apply pw_below_drewN | apply below_drew1 | refine below_set ?_ GE308.out | refine below_set ?_ GE322.out) | exact HB.out)))); have n4_ := Aside0.mk (blk_below (g := gb308) (o := .cells #[.slice A0_0 l0_0.length c0_0] 24 (0, 0)) (by (with_reducible repeat (first | refine blk_drewN ?_ _ | refine blk_drew ?_ | refine blk_alloc ?_ _)); exact BK308.out) hb); have n5_ := Aside0.mk (blk_below (g := gb322) (o := .cells #[.slice Ao33 t319.length co33] 31 (0, 0)) (by (with_reducible repeat (first | refine blk_drewN ?_ _ | refine blk_drew ?_ | refine blk_alloc ?_ _)); exact BK322.out) hb); have n6_ := Aside0.mk (below_step (by repeat (first | (with_reducible first | exact HB.out | apply below_alloc | apply pw_below_drewN | apply below_drew1 | refine below_set ?_ GE308.out | refine below_set ?_ GE322.out) | exact HB.out)) hb); clear HO_11; clear HO_323000; clear HO330; clear BK308; clear BK322; clear HB; have HO_11 := n0_; have HO_323000 := n1_; have HO330 := n2_; have HO334 := n3_; have BK308 := n4_; have BK322 := n5_; have HB := n6_; clear n0_ n1_ n2_ n3_ n4_ n5_ n6_; (try clear hb); (try clear hb2); (try clear hk); (try clear hi); (try clear ho0); obtain ⟨Ao53, co53, eo53⟩ := Kd.R_slice HO334.out; subst eo53) | ((with_reducible refine gate_callee (f := 26) rfl ?_); refine goesL_ (some 60) rfl rfl Try.func26 (by kernel_rfl) rfl #[.slice Ao38 t323.length co38, .slice Ao53 t332.length co53] rfl (by (try simp only [List.map_toArray, List.map_cons, List.map_nil]); first | done | rfl | (simp only [List.length_drop, List.length_take]; rfl)) ?_; (with_reducible refine (laws_eqWindowS.calls kj19 _ _ t323 _ _ t332 true _ ?side1 ?side2 ?side3 ?side4 A46.out).mono ?_); (case side1 => repeat (first | exact (Kd.R_reads' HO_11.out).2.2 | (with_reducible refine Kd.C_alloc ?_ _) | (with_reducible refine Kd.C_drewN ?_ _) | (with_reducible refine Kd.C_drew ?_))); (case side2 => exact (Kd.R_reads' HO_11.out).2.1); (case side3 => repeat (first | exact (Kd.R_reads' HO334.out).2.2 | (with_reducible refine Kd.C_alloc ?_ _) | (with_reducible refine Kd.C_drewN ?_ _) | (with_reducible refine Kd.C_drew ?_))); (case side4 => exact (Kd.R_reads' HO334.out).2.1); rintro e w54 ⟨rfl, hb⟩; refine ⟨_, rfl, ?_⟩; have n0_ := Aside0.mk (Kd.R_below (by (with_reducible repeat (first | apply Kd.R_alloc | apply Kd.R_drewN | apply Kd.R_drew)); exact HO_11.out) hb); have n1_ := Aside0.mk (Kd.S_below (by (with_reducible repeat (first | apply Kd.S_alloc | apply Kd.S_drewN | apply Kd.S_drew)); exact HO_323000.out) hb); have n2_ := Aside0.mk (Kd.S_below (by (with_reducible repeat (first | apply Kd.S_alloc | apply Kd.S_drewN | apply Kd.S_drew)); exact HO330.out) hb); have n3_ := Aside0.mk (Kd.R_below (by (with_reducible repeat (first | apply Kd.R_alloc | apply Kd.R_drewN | apply Kd.R_drew)); exact HO334.out) hb); have n4_ := Aside0.mk (blk_below (g := gb308) (o := .cells #[.slice A0_0 l0_0.length c0_0] 24 (0, 0)) (by (with_reducible repeat (first | refine blk_drewN ?_ _ | refine blk_drew ?_ | refine blk_alloc ?_ _)); exact BK308.out) hb); have n5_ := Aside0.mk (blk_below (g := gb322) (o := .cells #[.slice Ao33 t319.length co33] 31 (0, 0)) (by (with_reducible repeat (first | refine blk_drewN ?_ _ | refine blk_drew ?_ | refine blk_alloc ?_ _)); exact BK322.out) hb); have n6_ := Aside0.mk (below_step (by repeat (first | (with_reducible first | exact HB.out | apply below_alloc | apply pw_below_drewN | apply below_drew1 | refine below_set ?_ GE308.out | refine below_set ?_ GE322.out) | exact HB.out)) hb); clear HO_11; clear HO_323000; clear HO330; clear HO334; clear BK308; clear BK322; clear HB; have HO_11 := n0_; have HO_323000 := n1_; have HO330 := n2_; have HO334 := n3_; have BK308 := n4_; have BK322 := n5_; have HB := n6_; clear n0_ n1_ n2_ n3_ n4_ n5_ n6_; (try clear hb); (try clear hb2); (try clear hk); (try clear hi)))
                go_ret
                exact ⟨by first | rfl | (simp [errW_none, errW_some] <;> rfl) | (simp [*, errW_none, errW_some] <;> rfl), by repeat (first | (with_reducible first | exact HB.out | apply below_alloc | apply pw_below_drewN | apply below_drew1 | refine below_set ?_ GE308.out | refine below_set ?_ GE322.out) | exact HB.out)⟩
              · replace c47 := Bool.eq_false_iff.mpr c47
                subst c47
                have H1 : (some false) = some r := by rw [if_neg (show ¬ (false = true) by decide)] at H; exact H
                clear H
                have H := H1
                clear H1
                obtain rfl := Option.some.inj H
                try go_wp2
                have n0_ := Aside0.mk (Kd.R_drew HO_11.out)
                have n1_ := Aside0.mk (Kd.S_drew HO_323000.out)
                have n2_ := Aside0.mk (blk_drew BK308.out)
                have n3_ := Aside0.mk (blk_drew BK322.out)
                have n4_ := Aside0.mk (below_drew1 HB.out)
                clear HO_11
                clear HO_323000
                clear BK308
                clear BK322
                clear HB
                have HO_11 := n0_
                have HO_323000 := n1_
                have BK308 := n2_
                have BK322 := n3_
                have HB := n4_
                clear n0_ n1_ n2_ n3_ n4_
                refine start_ (n := 5) (S := fun w' => w'.cell? ⟨gb322, 0, none⟩ = some (.slice Ao33 t319.length co33) ∧ w'.cell? ⟨gb308, 0, none⟩ = some (.slice A0_0 l0_0.length c0_0)) (ds := []) #[false, false, false, false, false] (by kernel_rfl) rfl rfl ⟨(blk_cell BK322.out 0).trans rfl, (blk_cell BK308.out 0).trans rfl⟩ (fun hHeld => ?_)
                generalize wc.drew = w55 at HO_11 HO_323000 BK308 BK322 HB hHeld ⊢
                refine take_ (i := 0) (N := some 52) (v := ?_) (a' := ?_) #[true, false, false, false, false] rfl rfl (by kernel_rfl) (fun _ _ _ h => h) (Or.inl ⟨by rfl, ?_⟩) hHeld ?_ ?_
                rotate_left
                · rintro w' ⟨s0, s1⟩
                  go_simp
                  with_reducible rfl
                rotate_left
                · simp only [Act.put, List.setIfInBounds_toArray, List.set_cons_zero, List.set_cons_succ, i64_w, i32_w]
                  rfl
                refine take_ (i := 1) (N := some 53) (v := ?_) (a' := ?_) #[true, true, false, false, false] rfl rfl (by kernel_rfl) (fun _ _ _ h => h) (Or.inl ⟨by rfl, ?_⟩) hHeld ?_ ?_
                rotate_left
                · rintro w' ⟨s0, s1⟩
                  go_simp
                  with_reducible rfl
                rotate_left
                · simp only [Act.put, List.setIfInBounds_toArray, List.set_cons_zero, List.set_cons_succ, i64_w, i32_w]
                  rfl
                refine one_ (i := 2) (N := some 54) #[true, true, true, false, false] rfl rfl (by kernel_rfl) (by decide) (fun K hK => ?_)
                refine goes_ Try.func14 (by kernel_rfl) rfl #[.agg #[.slice A0_0 l0_0.length c0_0]] (by rfl) rfl rfl (by (try simp only [List.map_toArray, List.map_cons, List.map_nil]); first | done | rfl | (simp only [List.length_drop, List.length_take]; rfl)) ?_
                with_reducible refine (laws_toMemory.calls kj19 _ _ l0_0 t328 _ ?side1 ?side2 A42.out).mono ?_
                (case side1 => repeat (first | exact (Kd.C_below HR0_0.out HB.out) | (with_reducible refine Kd.C_alloc ?_ _) | (with_reducible refine Kd.C_drewN ?_ _) | (with_reducible refine Kd.C_drew ?_)))
                (case side2 => exact HC0_0.out)
                rintro e w56 ⟨v329, rfl, ho0, hb⟩
                refine ⟨_, rfl, ?_⟩
                have n0_ := Aside0.mk (Kd.R_below (by (with_reducible repeat (first | apply Kd.R_alloc | apply Kd.R_drewN | apply Kd.R_drew)); exact HO_11.out) hb)
                have n1_ := Aside0.mk (Kd.S_elder' (by (with_reducible repeat (first | apply Kd.S_alloc | apply Kd.S_drewN | apply Kd.S_drew)); exact HO_323000.out) (Kd.S_base ho0) hb)
                have n2_ := Aside0.mk (Kd.S_lower (Kd.S_new' ho0 (Kd.S_lt (by (with_reducible repeat (first | apply Kd.S_alloc | apply Kd.S_drewN | apply Kd.S_drew)); exact HO_323000.out))) (below_size (by repeat (first | (with_reducible first | exact HB.out | apply below_alloc | apply pw_below_drewN | apply below_drew1 | refine below_set ?_ GE308.out | refine below_set ?_ GE322.out) | exact HB.out))))
                have n3_ := Aside0.mk (blk_below (g := gb308) (o := .cells #[.slice A0_0 l0_0.length c0_0] 24 (0, 0)) (by (with_reducible repeat (first | refine blk_drewN ?_ _ | refine blk_drew ?_ | refine blk_alloc ?_ _)); exact BK308.out) hb)
                have n4_ := Aside0.mk (blk_below (g := gb322) (o := .cells #[.slice Ao33 t319.length co33] 31 (0, 0)) (by (with_reducible repeat (first | refine blk_drewN ?_ _ | refine blk_drew ?_ | refine blk_alloc ?_ _)); exact BK322.out) hb)
                have n5_ := Aside0.mk (below_step (by repeat (first | (with_reducible first | exact HB.out | apply below_alloc | apply pw_below_drewN | apply below_drew1 | refine below_set ?_ GE308.out | refine below_set ?_ GE322.out) | exact HB.out)) hb)
                clear HO_11
                clear HO_323000
                clear BK308
                clear BK322
                clear HB
                have HO_11 := n0_
                have HO_323000 := n1_
                have HO330 := n2_
                have BK308 := n3_
                have BK322 := n4_
                have HB := n5_
                clear n0_ n1_ n2_ n3_ n4_ n5_
                (try clear hb)
                (try clear hb2)
                (try clear hk)
                (try clear hi)
                (try clear ho0)
                obtain ⟨Ao57, co57, eo57⟩ := Kd.S_slice HO330.out
                (first | subst eo57 | (injection eo57 with f1_ f2_ f3_; have f4_ := f1_.symm; have f5_ := f3_.symm; clear f1_ f2_ f3_; subst f4_; subst f5_))
                refine hK.out _ _ ⟨(blk_cell BK322.out 0).trans rfl, (blk_cell BK308.out 0).trans rfl⟩ (fun hHeld => ?_)
                clear hK K
                refine norm_ (a' := ?_) ?_ ?_
                rotate_left
                · show Act.put _ (some 54) _ = _
                  simp only [Act.put, List.setIfInBounds_toArray, List.set_cons_zero, List.set_cons_succ, i64_w, i32_w]
                  rfl
                refine one_ (i := 3) (N := some 55) #[true, true, true, true, false] rfl rfl (by kernel_rfl) (by decide) (fun K hK => ?_)
                refine goes_ Try.func18 (by kernel_rfl) rfl #[.agg #[.slice Ao33 t319.length co33], .agg #[.slice Ao57 t328.length co57]] (by rfl) rfl rfl (by (try simp only [List.map_toArray, List.map_cons, List.map_nil]); first | done | rfl | (simp only [List.length_drop, List.length_take]; rfl)) ?_
                with_reducible refine (laws_eqMemory.calls kj19 _ _ t319 _ _ t328 true _ ?side1 ?side2 ?side3 ?side4 A43.out).mono ?_
                (case side1 => repeat (first | exact (Kd.S_reads' HO_323000.out).2.2 | (with_reducible refine Kd.C_alloc ?_ _) | (with_reducible refine Kd.C_drewN ?_ _) | (with_reducible refine Kd.C_drew ?_)))
                (case side2 => exact (Kd.S_reads' HO_323000.out).2.1)
                (case side3 => repeat (first | exact (Kd.S_reads' HO330.out).2.2 | (with_reducible refine Kd.C_alloc ?_ _) | (with_reducible refine Kd.C_drewN ?_ _) | (with_reducible refine Kd.C_drew ?_)))
                (case side4 => exact (Kd.S_reads' HO330.out).2.1)
                rintro e w58 ⟨rfl, hb⟩
                refine ⟨_, rfl, ?_⟩
                have n0_ := Aside0.mk (Kd.R_below (by (with_reducible repeat (first | apply Kd.R_alloc | apply Kd.R_drewN | apply Kd.R_drew)); exact HO_11.out) hb)
                have n1_ := Aside0.mk (Kd.S_below (by (with_reducible repeat (first | apply Kd.S_alloc | apply Kd.S_drewN | apply Kd.S_drew)); exact HO_323000.out) hb)
                have n2_ := Aside0.mk (Kd.S_below (by (with_reducible repeat (first | apply Kd.S_alloc | apply Kd.S_drewN | apply Kd.S_drew)); exact HO330.out) hb)
                have n3_ := Aside0.mk (blk_below (g := gb308) (o := .cells #[.slice A0_0 l0_0.length c0_0] 24 (0, 0)) (by (with_reducible repeat (first | refine blk_drewN ?_ _ | refine blk_drew ?_ | refine blk_alloc ?_ _)); exact BK308.out) hb)
                have n4_ := Aside0.mk (blk_below (g := gb322) (o := .cells #[.slice Ao33 t319.length co33] 31 (0, 0)) (by (with_reducible repeat (first | refine blk_drewN ?_ _ | refine blk_drew ?_ | refine blk_alloc ?_ _)); exact BK322.out) hb)
                have n5_ := Aside0.mk (below_step (by repeat (first | (with_reducible first | exact HB.out | apply below_alloc | apply pw_below_drewN | apply below_drew1 | refine below_set ?_ GE308.out | refine below_set ?_ GE322.out) | exact HB.out)) hb)
                clear HO_11
                clear HO_323000
                clear HO330
                clear BK308
                clear BK322
                clear HB
                have HO_11 := n0_
                have HO_323000 := n1_
                have HO330 := n2_
                have BK308 := n3_
                have BK322 := n4_
                have HB := n5_
                clear n0_ n1_ n2_ n3_ n4_ n5_
                (try clear hb)
                (try clear hb2)
                (try clear hk)
                (try clear hi)
                refine hK.out _ _ ⟨(blk_cell BK322.out 0).trans rfl, (blk_cell BK308.out 0).trans rfl⟩ (fun hHeld => ?_)
                clear hK K
                refine norm_ (a' := ?_) ?_ ?_
                rotate_left
                · show Act.put _ (some 55) _ = _
                  simp only [Act.put, List.setIfInBounds_toArray, List.set_cons_zero, List.set_cons_succ, i64_w, i32_w]
                  rfl
                refine pure_ (i := 4) (N := some 56) (v := ?_) (a' := ?_) #[true, true, true, true, true] rfl rfl (by kernel_rfl) (fun _ _ _ h => h) (Or.inl ⟨by rfl, ?_⟩) ?_ ?_
                rotate_left
                · intro w'
                  go_simp
                  with_reducible rfl
                rotate_left
                · simp only [Act.put, List.setIfInBounds_toArray, List.set_cons_zero, List.set_cons_succ, i64_w, i32_w]
                  rfl
                refine done_ (by kernel_rfl) ?_
                try go_wp2_with (first | ((with_reducible refine gate_callee (f := 24) rfl ?_); refine goesL_ (some 59) rfl rfl Try.func24 (by kernel_rfl) rfl #[.slice A1 l1.length c1] rfl (by (try simp only [List.map_toArray, List.map_cons, List.map_nil]); first | done | rfl | (simp only [List.length_drop, List.length_take]; rfl)) ?_; (with_reducible refine (laws_toWindowS.calls kj19 _ _ l1 t332 _ ?side1 ?side2 A45.out).mono ?_); (case side1 => repeat (first | exact (Kd.C_below HR1.out HB.out) | (with_reducible refine Kd.C_alloc ?_ _) | (with_reducible refine Kd.C_drewN ?_ _) | (with_reducible refine Kd.C_drew ?_))); (case side2 => exact HC1.out); rintro e w59 ⟨v333, rfl, ho0, hb⟩; refine ⟨_, rfl, ?_⟩; have n0_ := Aside0.mk (Kd.R_elder' (by (with_reducible repeat (first | apply Kd.R_alloc | apply Kd.R_drewN | apply Kd.R_drew)); exact HO_11.out) (Kd.R_base ho0) hb); have n1_ := Aside0.mk (Kd.S_below (by (with_reducible repeat (first | apply Kd.S_alloc | apply Kd.S_drewN | apply Kd.S_drew)); exact HO_323000.out) hb); have n2_ := Aside0.mk (Kd.S_below (by (with_reducible repeat (first | apply Kd.S_alloc | apply Kd.S_drewN | apply Kd.S_drew)); exact HO330.out) hb); have n3_ := Aside0.mk (Kd.R_lower (Kd.R_new' ho0 (Kd.R_lt (by (with_reducible repeat (first | apply Kd.R_alloc | apply Kd.R_drewN | apply Kd.R_drew)); exact HO_11.out))) (below_size (by repeat (first | (with_reducible first | exact HB.out | apply below_alloc | apply pw_below_drewN | apply below_drew1 | refine below_set ?_ GE308.out | refine below_set ?_ GE322.out) | exact HB.out)))); have n4_ := Aside0.mk (blk_below (g := gb308) (o := .cells #[.slice A0_0 l0_0.length c0_0] 24 (0, 0)) (by (with_reducible repeat (first | refine blk_drewN ?_ _ | refine blk_drew ?_ | refine blk_alloc ?_ _)); exact BK308.out) hb); have n5_ := Aside0.mk (blk_below (g := gb322) (o := .cells #[.slice Ao33 t319.length co33] 31 (0, 0)) (by (with_reducible repeat (first | refine blk_drewN ?_ _ | refine blk_drew ?_ | refine blk_alloc ?_ _)); exact BK322.out) hb); have n6_ := Aside0.mk (below_step (by repeat (first | (with_reducible first | exact HB.out | apply below_alloc | apply pw_below_drewN | apply below_drew1 | refine below_set ?_ GE308.out | refine below_set ?_ GE322.out) | exact HB.out)) hb); clear HO_11; clear HO_323000; clear HO330; clear BK308; clear BK322; clear HB; have HO_11 := n0_; have HO_323000 := n1_; have HO330 := n2_; have HO334 := n3_; have BK308 := n4_; have BK322 := n5_; have HB := n6_; clear n0_ n1_ n2_ n3_ n4_ n5_ n6_; (try clear hb); (try clear hb2); (try clear hk); (try clear hi); (try clear ho0); obtain ⟨Ao60, co60, eo60⟩ := Kd.R_slice HO334.out; subst eo60) | ((with_reducible refine gate_callee (f := 26) rfl ?_); refine goesL_ (some 60) rfl rfl Try.func26 (by kernel_rfl) rfl #[.slice Ao38 t323.length co38, .slice Ao60 t332.length co60] rfl (by (try simp only [List.map_toArray, List.map_cons, List.map_nil]); first | done | rfl | (simp only [List.length_drop, List.length_take]; rfl)) ?_; (with_reducible refine (laws_eqWindowS.calls kj19 _ _ t323 _ _ t332 false _ ?side1 ?side2 ?side3 ?side4 A46.out).mono ?_); (case side1 => repeat (first | exact (Kd.R_reads' HO_11.out).2.2 | (with_reducible refine Kd.C_alloc ?_ _) | (with_reducible refine Kd.C_drewN ?_ _) | (with_reducible refine Kd.C_drew ?_))); (case side2 => exact (Kd.R_reads' HO_11.out).2.1); (case side3 => repeat (first | exact (Kd.R_reads' HO334.out).2.2 | (with_reducible refine Kd.C_alloc ?_ _) | (with_reducible refine Kd.C_drewN ?_ _) | (with_reducible refine Kd.C_drew ?_))); (case side4 => exact (Kd.R_reads' HO334.out).2.1); rintro e w61 ⟨rfl, hb⟩; refine ⟨_, rfl, ?_⟩; have n0_ := Aside0.mk (Kd.R_below (by (with_reducible repeat (first | apply Kd.R_alloc | apply Kd.R_drewN | apply Kd.R_drew)); exact HO_11.out) hb); have n1_ := Aside0.mk (Kd.S_below (by (with_reducible repeat (first | apply Kd.S_alloc | apply Kd.S_drewN | apply Kd.S_drew)); exact HO_323000.out) hb); have n2_ := Aside0.mk (Kd.S_below (by (with_reducible repeat (first | apply Kd.S_alloc | apply Kd.S_drewN | apply Kd.S_drew)); exact HO330.out) hb); have n3_ := Aside0.mk (Kd.R_below (by (with_reducible repeat (first | apply Kd.R_alloc | apply Kd.R_drewN | apply Kd.R_drew)); exact HO334.out) hb); have n4_ := Aside0.mk (blk_below (g := gb308) (o := .cells #[.slice A0_0 l0_0.length c0_0] 24 (0, 0)) (by (with_reducible repeat (first | refine blk_drewN ?_ _ | refine blk_drew ?_ | refine blk_alloc ?_ _)); exact BK308.out) hb); have n5_ := Aside0.mk (blk_below (g := gb322) (o := .cells #[.slice Ao33 t319.length co33] 31 (0, 0)) (by (with_reducible repeat (first | refine blk_drewN ?_ _ | refine blk_drew ?_ | refine blk_alloc ?_ _)); exact BK322.out) hb); have n6_ := Aside0.mk (below_step (by repeat (first | (with_reducible first | exact HB.out | apply below_alloc | apply pw_below_drewN | apply below_drew1 | refine below_set ?_ GE308.out | refine below_set ?_ GE322.out) | exact HB.out)) hb); clear HO_11; clear HO_323000; clear HO330; clear HO334; clear BK308; clear BK322; clear HB; have HO_11 := n0_; have HO_323000 := n1_; have HO330 := n2_; have HO334 := n3_; have BK308 := n4_; have BK322 := n5_; have HB := n6_; clear n0_ n1_ n2_ n3_ n4_ n5_ n6_; (try clear hb); (try clear hb2); (try clear hk); (try clear hi)))
                go_ret
                exact ⟨by first | rfl | (simp [errW_none, errW_some] <;> rfl) | (simp [*, errW_none, errW_some] <;> rfl), by repeat (first | (with_reducible first | exact HB.out | apply below_alloc | apply pw_below_drewN | apply below_drew1 | refine below_set ?_ GE308.out | refine below_set ?_ GE322.out) | exact HB.out)⟩
            · replace c44 := Bool.eq_false_iff.mpr c44
              subst c44
              have H1 : (some false) = some r := by rw [if_neg (show ¬ (false = true) by decide)] at H; exact H
              clear H
              have H := H1
              clear H1
              obtain rfl := Option.some.inj H
              try go_wp2
              have n0_ := Aside0.mk (Kd.R_drew HO_11.out)
              have n1_ := Aside0.mk (Kd.S_drew HO_323000.out)
              have n2_ := Aside0.mk (blk_drew BK308.out)
              have n3_ := Aside0.mk (blk_drew BK322.out)
              have n4_ := Aside0.mk (below_drew1 HB.out)
              clear HO_11
              clear HO_323000
              clear BK308
              clear BK322
              clear HB
              have HO_11 := n0_
              have HO_323000 := n1_
              have BK308 := n2_
              have BK322 := n3_
              have HB := n4_
              clear n0_ n1_ n2_ n3_ n4_
              refine start_ (n := 5) (S := fun w' => w'.cell? ⟨gb322, 0, none⟩ = some (.slice Ao33 t319.length co33) ∧ w'.cell? ⟨gb308, 0, none⟩ = some (.slice A0_0 l0_0.length c0_0)) (ds := []) #[false, false, false, false, false] (by kernel_rfl) rfl rfl ⟨(blk_cell BK322.out 0).trans rfl, (blk_cell BK308.out 0).trans rfl⟩ (fun hHeld => ?_)
              generalize wc.drew = w62 at HO_11 HO_323000 BK308 BK322 HB hHeld ⊢
              refine take_ (i := 0) (N := some 52) (v := ?_) (a' := ?_) #[true, false, false, false, false] rfl rfl (by kernel_rfl) (fun _ _ _ h => h) (Or.inl ⟨by rfl, ?_⟩) hHeld ?_ ?_
              rotate_left
              · rintro w' ⟨s0, s1⟩
                go_simp
                with_reducible rfl
              rotate_left
              · simp only [Act.put, List.setIfInBounds_toArray, List.set_cons_zero, List.set_cons_succ, i64_w, i32_w]
                rfl
              refine take_ (i := 1) (N := some 53) (v := ?_) (a' := ?_) #[true, true, false, false, false] rfl rfl (by kernel_rfl) (fun _ _ _ h => h) (Or.inl ⟨by rfl, ?_⟩) hHeld ?_ ?_
              rotate_left
              · rintro w' ⟨s0, s1⟩
                go_simp
                with_reducible rfl
              rotate_left
              · simp only [Act.put, List.setIfInBounds_toArray, List.set_cons_zero, List.set_cons_succ, i64_w, i32_w]
                rfl
              refine one_ (i := 2) (N := some 54) #[true, true, true, false, false] rfl rfl (by kernel_rfl) (by decide) (fun K hK => ?_)
              refine goes_ Try.func14 (by kernel_rfl) rfl #[.agg #[.slice A0_0 l0_0.length c0_0]] (by rfl) rfl rfl (by (try simp only [List.map_toArray, List.map_cons, List.map_nil]); first | done | rfl | (simp only [List.length_drop, List.length_take]; rfl)) ?_
              with_reducible refine (laws_toMemory.calls kj19 _ _ l0_0 t328 _ ?side1 ?side2 A42.out).mono ?_
              (case side1 => repeat (first | exact (Kd.C_below HR0_0.out HB.out) | (with_reducible refine Kd.C_alloc ?_ _) | (with_reducible refine Kd.C_drewN ?_ _) | (with_reducible refine Kd.C_drew ?_)))
              (case side2 => exact HC0_0.out)
              rintro e w63 ⟨v329, rfl, ho0, hb⟩
              refine ⟨_, rfl, ?_⟩
              have n0_ := Aside0.mk (Kd.R_below (by (with_reducible repeat (first | apply Kd.R_alloc | apply Kd.R_drewN | apply Kd.R_drew)); exact HO_11.out) hb)
              have n1_ := Aside0.mk (Kd.S_elder' (by (with_reducible repeat (first | apply Kd.S_alloc | apply Kd.S_drewN | apply Kd.S_drew)); exact HO_323000.out) (Kd.S_base ho0) hb)
              have n2_ := Aside0.mk (Kd.S_lower (Kd.S_new' ho0 (Kd.S_lt (by (with_reducible repeat (first | apply Kd.S_alloc | apply Kd.S_drewN | apply Kd.S_drew)); exact HO_323000.out))) (below_size (by repeat (first | (with_reducible first | exact HB.out | apply below_alloc | apply pw_below_drewN | apply below_drew1 | refine below_set ?_ GE308.out | refine below_set ?_ GE322.out) | exact HB.out))))
              have n3_ := Aside0.mk (blk_below (g := gb308) (o := .cells #[.slice A0_0 l0_0.length c0_0] 24 (0, 0)) (by (with_reducible repeat (first | refine blk_drewN ?_ _ | refine blk_drew ?_ | refine blk_alloc ?_ _)); exact BK308.out) hb)
              have n4_ := Aside0.mk (blk_below (g := gb322) (o := .cells #[.slice Ao33 t319.length co33] 31 (0, 0)) (by (with_reducible repeat (first | refine blk_drewN ?_ _ | refine blk_drew ?_ | refine blk_alloc ?_ _)); exact BK322.out) hb)
              have n5_ := Aside0.mk (below_step (by repeat (first | (with_reducible first | exact HB.out | apply below_alloc | apply pw_below_drewN | apply below_drew1 | refine below_set ?_ GE308.out | refine below_set ?_ GE322.out) | exact HB.out)) hb)
              clear HO_11
              clear HO_323000
              clear BK308
              clear BK322
              clear HB
              have HO_11 := n0_
              have HO_323000 := n1_
              have HO330 := n2_
              have BK308 := n3_
              have BK322 := n4_
              have HB := n5_
              clear n0_ n1_ n2_ n3_ n4_ n5_
              (try clear hb)
              (try clear hb2)
              (try clear hk)
              (try clear hi)
              (try clear ho0)
              obtain ⟨Ao64, co64, eo64⟩ := Kd.S_slice HO330.out
              (first | subst eo64 | (injection eo64 with f1_ f2_ f3_; have f4_ := f1_.symm; have f5_ := f3_.symm; clear f1_ f2_ f3_; subst f4_; subst f5_))
              refine hK.out _ _ ⟨(blk_cell BK322.out 0).trans rfl, (blk_cell BK308.out 0).trans rfl⟩ (fun hHeld => ?_)
              clear hK K
              refine norm_ (a' := ?_) ?_ ?_
              rotate_left
              · show Act.put _ (some 54) _ = _
                simp only [Act.put, List.setIfInBounds_toArray, List.set_cons_zero, List.set_cons_succ, i64_w, i32_w]
                rfl
              refine one_ (i := 3) (N := some 55) #[true, true, true, true, false] rfl rfl (by kernel_rfl) (by decide) (fun K hK => ?_)
              refine goes_ Try.func18 (by kernel_rfl) rfl #[.agg #[.slice Ao33 t319.length co33], .agg #[.slice Ao64 t328.length co64]] (by rfl) rfl rfl (by (try simp only [List.map_toArray, List.map_cons, List.map_nil]); first | done | rfl | (simp only [List.length_drop, List.length_take]; rfl)) ?_
              with_reducible refine (laws_eqMemory.calls kj19 _ _ t319 _ _ t328 false _ ?side1 ?side2 ?side3 ?side4 A43.out).mono ?_
              (case side1 => repeat (first | exact (Kd.S_reads' HO_323000.out).2.2 | (with_reducible refine Kd.C_alloc ?_ _) | (with_reducible refine Kd.C_drewN ?_ _) | (with_reducible refine Kd.C_drew ?_)))
              (case side2 => exact (Kd.S_reads' HO_323000.out).2.1)
              (case side3 => repeat (first | exact (Kd.S_reads' HO330.out).2.2 | (with_reducible refine Kd.C_alloc ?_ _) | (with_reducible refine Kd.C_drewN ?_ _) | (with_reducible refine Kd.C_drew ?_)))
              (case side4 => exact (Kd.S_reads' HO330.out).2.1)
              rintro e w65 ⟨rfl, hb⟩
              refine ⟨_, rfl, ?_⟩
              have n0_ := Aside0.mk (Kd.R_below (by (with_reducible repeat (first | apply Kd.R_alloc | apply Kd.R_drewN | apply Kd.R_drew)); exact HO_11.out) hb)
              have n1_ := Aside0.mk (Kd.S_below (by (with_reducible repeat (first | apply Kd.S_alloc | apply Kd.S_drewN | apply Kd.S_drew)); exact HO_323000.out) hb)
              have n2_ := Aside0.mk (Kd.S_below (by (with_reducible repeat (first | apply Kd.S_alloc | apply Kd.S_drewN | apply Kd.S_drew)); exact HO330.out) hb)
              have n3_ := Aside0.mk (blk_below (g := gb308) (o := .cells #[.slice A0_0 l0_0.length c0_0] 24 (0, 0)) (by (with_reducible repeat (first | refine blk_drewN ?_ _ | refine blk_drew ?_ | refine blk_alloc ?_ _)); exact BK308.out) hb)
              have n4_ := Aside0.mk (blk_below (g := gb322) (o := .cells #[.slice Ao33 t319.length co33] 31 (0, 0)) (by (with_reducible repeat (first | refine blk_drewN ?_ _ | refine blk_drew ?_ | refine blk_alloc ?_ _)); exact BK322.out) hb)
              have n5_ := Aside0.mk (below_step (by repeat (first | (with_reducible first | exact HB.out | apply below_alloc | apply pw_below_drewN | apply below_drew1 | refine below_set ?_ GE308.out | refine below_set ?_ GE322.out) | exact HB.out)) hb)
              clear HO_11
              clear HO_323000
              clear HO330
              clear BK308
              clear BK322
              clear HB
              have HO_11 := n0_
              have HO_323000 := n1_
              have HO330 := n2_
              have BK308 := n3_
              have BK322 := n4_
              have HB := n5_
              clear n0_ n1_ n2_ n3_ n4_ n5_
              (try clear hb)
              (try clear hb2)
              (try clear hk)
              (try clear hi)
              refine hK.out _ _ ⟨(blk_cell BK322.out 0).trans rfl, (blk_cell BK308.out 0).trans rfl⟩ (fun hHeld => ?_)
              clear hK K
              refine norm_ (a' := ?_) ?_ ?_
              rotate_left
              · show Act.put _ (some 55) _ = _
                simp only [Act.put, List.setIfInBounds_toArray, List.set_cons_zero, List.set_cons_succ, i64_w, i32_w]
                rfl
              refine pure_ (i := 4) (N := some 56) (v := ?_) (a' := ?_) #[true, true, true, true, true] rfl rfl (by kernel_rfl) (fun _ _ _ h => h) (Or.inl ⟨by rfl, ?_⟩) ?_ ?_
              rotate_left
              · intro w'
                go_simp
                with_reducible rfl
              rotate_left
              · simp only [Act.put, List.setIfInBounds_toArray, List.set_cons_zero, List.set_cons_succ, i64_w, i32_w]
                rfl
              refine done_ (by kernel_rfl) ?_
              try go_wp2
              go_ret
              exact ⟨by first | rfl | (simp [errW_none, errW_some] <;> rfl) | (simp [*, errW_none, errW_some] <;> rfl), by repeat (first | (with_reducible first | exact HB.out | apply below_alloc | apply pw_below_drewN | apply below_drew1 | refine below_set ?_ GE308.out | refine below_set ?_ GE322.out) | exact HB.out)⟩
end Go.Proofs.Ytaoffejflichjaa.P
end
section
namespace Go.Proofs.Ytaoffejflichjaa.P
open Go.RowKit Go.Deep Go.Joins Go.WideShapes Go.ChangeShapes Go.ChangeAt Go.Proofs.YtaoffejflichjaaW.PrintWords Go.Proofs.YtaoffejflichjaaW.PrintLast Go.Proofs.YtaoffejflichjaaW.PrintMore
set_option linter.unusedVariables false
set_option linter.unusedSectionVars false
section
variable {H : Type} {enc : TypeId × Value → H} {P : Program} {w : World} {base : Nat} {spare : Nat → Bool} {held : Bool}
theorem opn_int {t : TypeId} {k : IntKind} {n : Nat} {cs : List Value} {x : DataW H × List MemPlace} (ht : P.underlying t = some (.int k)) (h : DataW.trod enc P w base spare held n t cs = some x) :
    ∃ a : Int, (Kd.int k).K w a cs ∧ (Lit.int k a).wf = true := by
  obtain ⟨a, e, _, hw⟩ := DataW.trod_int ht h
  exact ⟨a, e, hw⟩
theorem opn_slice {α : Type} [Inhabited α] {d : Kd α} {Q : α → Prop} {t e : TypeId} {n : Nat} {cs : List Value} {x : DataW H × List MemPlace} (ht : P.underlying t = some (.slice e)) (hsz : P.cellsOf e = d.sz)
    (hel : ∀ n cs y, DataW.trod enc P w base spare held n e cs = some y → ∃ a, d.K w a cs ∧ Q a) (h : DataW.trod enc P w base spare held n t cs = some x) :
    ∃ l : List α, (Kd.slice e d).K w l cs ∧ (l.length ≤ 9223372036854775807 ∧ ∀ a ∈ l, Q a) := by
  rcases open_slice ht h with ⟨rfl, _⟩ | ⟨a, len, cap, m, n', D, Pl, rfl, hb, hl, hm, hmm, rfl, hx⟩
  · exact ⟨[], ⟨none, 0, rfl, Nat.le_refl _, Kd.C_nil d w⟩, by simp, by simp⟩
  · have hlm : len ≤ m := by rw [hmm]; split <;> omega
    have hmax : len ≤ 9223372036854775807 := by simp only [maxLen] at hm; omega
    have each : ∀ i, i < len → ∃ y : α, (∃ c, c.length = d.sz ∧ d.K w y c ∧ ∀ j u, c[j]? = some u → w.cell? (a.add (i * d.sz + j)) = some u) ∧ Q y := by
      intro i hi
      obtain ⟨cs', h1, h2⟩ := hx i (by omega)
      obtain ⟨y, hK, hQ⟩ := hel _ _ _ h2
      obtain ⟨_, hlen, hc⟩ := World.cells?_some h1
      rw [hsz] at hlen hc
      refine ⟨y, ⟨cs', hlen, hK, fun j u hu => ?_⟩, hQ⟩
      have hj : j < d.sz := by rw [← hlen]; exact (List.getElem?_eq_some_iff.1 hu).1
      rw [← hu, ← hc j hj, Addr.add_add]
    obtain ⟨f, hf⟩ := choose_lt each
    have hlen : ((List.range len).map f).length = len := by simp
    refine ⟨(List.range len).map f, ⟨some a, cap, by rw [hlen], by rw [hlen]; exact hl, rfl, by rw [hlen]; exact hmax, fun _ => ⟨a, rfl, fun j p hj => ?_⟩⟩, by rw [hlen]; exact hmax, fun y hy => ?_⟩
    · have hjl : j < len := by have := (List.getElem?_eq_some_iff.1 hj).1; omega
      have hp : f j = p := by simpa [List.getElem?_range hjl] using hj
      subst hp
      obtain ⟨c, h1, h2, h3⟩ := (hf j hjl).1
      exact ⟨c, h1, h2, h3⟩
    · obtain ⟨i, hi, rfl⟩ := List.mem_map.1 hy
      exact (hf i (List.mem_range.1 hi)).2
theorem byval1 {r : Reach} {b0 : Nat} {t : TypeId} {f0 : Field} {v : Value} {d : DataW H} {p : List MemPlace} (hs : P.underlying t = some (.struct #[f0])) (hone : oneCellFields P #[f0] = true) (hC : P.cellsOf t = 1)
    (hv : Value.okWide P w r b0 t v) (h : DataW.Trod enc P w base spare held t v d p) :
    ∃ (v0 : Value) (y0 : DataW H × List MemPlace) (n : Nat), v = .agg #[v0] ∧ DataW.trod enc P w base spare held n f0.type [v0] = some y0 := by
  obtain ⟨cs, rfl, hsz⟩ := okWide_struct hs hv
  obtain ⟨c0, rfl⟩ : ∃ c0, cs = #[c0] := by
    obtain ⟨l⟩ := cs
    match l, hsz.trans hC with
    | [c0], _ => exact ⟨c0, rfl⟩
  obtain ⟨fuel, hf⟩ := h
  obtain ⟨y0, n, _, _, h0⟩ := trod_struct1 hs hf
  obtain ⟨o0, k0⟩ := hone_of hone 0 f0 rfl
  exact ⟨c0, y0, n, rfl, by simpa [Value.cells, o0, k0] using h0⟩
instance : Inhabited S26 := ⟨⟨0, 0, 0, 0⟩⟩
set_option maxRecDepth 100000 in
theorem opn_S26 {w : World} {n : Nat} {cs : List Value} {y : DataW H × List MemPlace} (h : DataW.trod enc Try.prog w base spare held n 26 cs = some y) : ∃ x : S26, k26.K w x cs ∧ (fun x : S26 => (fun x => (Lit.int .i64 x).wf = true) x.f0 ∧ (fun x => (Lit.int .i64 x).wf = true) x.f1 ∧ (fun x => (Lit.int .i64 x).wf = true) x.f2 ∧ (fun x => (Lit.int .i64 x).wf = true) x.f3) x := by
  obtain ⟨y0, y1, y2, y3, m, _, hl, h0, h1, h2, h3⟩ := trod_struct4 Try.underlying26 h
  have hl' : cs.length = 4 := hl.trans (by kernel_rfl)
  have cc3 : Try.prog.cellsOf 3 = 1 := by kernel_rfl
  match cs, hl' with
  | [c0, c1, c2, c3], _ =>
  simp only [cc3, List.drop_zero, List.drop_succ_cons, List.take_succ_cons, List.take_zero] at h0 h1 h2 h3
  obtain ⟨a0, e0, w0⟩ := opn_int Try.underlying3 h0
  replace e0 := List.head_eq_of_cons_eq e0
  subst e0
  obtain ⟨a1, e1, w1⟩ := opn_int Try.underlying3 h1
  replace e1 := List.head_eq_of_cons_eq e1
  subst e1
  obtain ⟨a2, e2, w2⟩ := opn_int Try.underlying3 h2
  replace e2 := List.head_eq_of_cons_eq e2
  subst e2
  obtain ⟨a3, e3, w3⟩ := opn_int Try.underlying3 h3
  replace e3 := List.head_eq_of_cons_eq e3
  subst e3
  exact ⟨⟨a0, a1, a2, a3⟩, k26_mk w ⟨a0, a1, a2, a3⟩, w0, w1, w2, w3⟩
end
end Go.Proofs.Ytaoffejflichjaa.P
end
section
namespace Go.Proofs.Ytaoffejflichjaa.P
open Go.RowKit Go.Proofs.YtaoffejflichjaaW.PrintWords Go.Proofs.YtaoffejflichjaaW.PrintLast Go.Proofs.YtaoffejflichjaaW.PrintMore
def FnExactSafeToAppendPure : Prop := ∀ (l0_0 : List (List Int)) (l1 : List S26) (a2 : Int), (fun l => l.length ≤ 9223372036854775807 ∧ ∀ x ∈ l, (fun l => l.length ≤ 9223372036854775807 ∧ ∀ x ∈ l, (fun x => (Lit.int .u8 x).wf = true) x) x) l0_0 → (fun l => l.length ≤ 9223372036854775807 ∧ ∀ x ∈ l, (fun x => (fun x => (Lit.int .i64 x).wf = true) x.f0 ∧ (fun x => (Lit.int .i64 x).wf = true) x.f1 ∧ (fun x => (Lit.int .i64 x).wf = true) x.f2 ∧ (fun x => (Lit.int .i64 x).wf = true) x.f3) x) l1 → (fun x => (Lit.int .i64 x).wf = true) a2 → ∃ k, laws_FnExactSafeToAppend.f k l0_0 l1 a2 = some true
end Go.Proofs.Ytaoffejflichjaa.P
end
section
namespace Go.Proofs.Ytaoffejflichjaa.P
open Go.RowKit Go.Proofs.YtaoffejflichjaaW.PrintWords Go.Proofs.YtaoffejflichjaaW.PrintLast Go.Proofs.YtaoffejflichjaaW.PrintMore
set_option linter.unusedVariables false
set_option linter.unusedSimpArgs false
def cvW (x : S26) : S33 := ⟨x.f0, x.f1, x.f2, x.f3⟩
theorem szWins (l : List S26) (t : Int) (hl : l.length ≤ 9223372036854775807) (h0 : ¬ t < 0) (h1 : t ≤ 1048576) : ∃ r, laws_szWindowS.f l t = some r ∧ (¬ r < 0 → l.length ≤ 1048576 ∧ r ≤ 1048576) := by
  unfold laws_szWindowS.f
  rw [wrap_in (x := t - (l.length : Int)) (by omega) (by omega)]
  by_cases h : t - (l.length : Int) < 0
  · rw [if_pos h]; exact ⟨_, rfl, fun h => by omega⟩
  · rw [if_neg h]; exact ⟨_, rfl, fun h => by omega⟩
theorem set_takeG {α : Type} (g x3 : List α) (i : Nat) (v : α) (hi : i < g.length) (hv : g[i] = v) (hl : x3.length = g.length) (ht : x3.take i = g.take i) : (x3.set i v).take (i + 1) = g.take (i + 1) := by
  rw [List.take_succ_eq_append_getElem (by simpa using (by omega : i < x3.length)), List.take_succ_eq_append_getElem hi]
  congr 1
  · rw [List.take_set_of_le (Nat.le_refl _)]; exact ht
  · simp [hv]
theorem rdA {l : List S26} {i : Nat} (h : i < l.length) : rd_T26 l (i : Int) = l[i] := by
  unfold rd_T26; rw [Int.toNat_natCast, List.getD_eq_getElem?_getD, List.getElem?_eq_getElem h]; rfl
theorem rdB {l : List S33} {i : Nat} (h : i < l.length) : rd_T33 l (i : Int) = l[i] := by
  unfold rd_T33; rw [Int.toNat_natCast, List.getD_eq_getElem?_getD, List.getElem?_eq_getElem h]; rfl
theorem toWins_l0 (x0 : List S26) (hmax : x0.length ≤ 1048576) (d : Nat) : ∀ (i : Nat) (x3 : List S33), i + d = x0.length → x3.length = x0.length → x3.take i = (x0.map cvW).take i →
    Ev (fun k => laws_toWindowS.l0 k x0 x3 (i : Int)) (x0.map cvW) := by
  induction d with
  | zero =>
    intro i x3 hi hl ht
    have e : x3 = x0.map cvW := by
      rw [List.take_of_length_le (by omega), List.take_of_length_le (by rw [List.length_map]; omega)] at ht; exact ht
    rw [e]
    exact Ev.end_ (fun k => by simp only [laws_toWindowS.l0]; rw [if_neg (by omega)])
  | succ d ih =>
    intro i x3 hi hl ht
    have hlt : i < x0.length := by omega
    obtain ⟨K2, h2⟩ := ih (i + 1) (x3.set i (cvW x0[i])) (by omega) (by simpa using hl) (set_takeG (x0.map cvW) x3 i _ (by simpa using hlt) (by simp) (by simpa using hl) ht)
    refine ⟨K2 + 1, fun n hn => ?_⟩
    obtain ⟨k, rfl⟩ : ∃ k, n = k + 1 := ⟨n - 1, by omega⟩
    have e2 := h2 k (by omega)
    dsimp only at e2 ⊢
    simp only [laws_toWindowS.l0, laws_toWindow.f, Option.bind_some]
    rw [if_pos (by omega), if_pos (by omega), if_pos (by omega), wrap_succ i (by omega), rdA hlt, Int.toNat_natCast]
    exact e2
theorem toWins (l : List S26) (hmax : l.length ≤ 1048576) : Ev (fun k => laws_toWindowS.f k l) (l.map cvW) := by
  obtain ⟨K, hK⟩ := toWins_l0 l hmax l.length 0 (List.replicate l.length z33) (by omega) (by simp) (by simp)
  refine ⟨K, fun k hk => ?_⟩
  have h1 := hK k hk
  simp only [Int.ofNat_zero, Int.natCast_zero] at h1
  dsimp only
  unfold laws_toWindowS.f
  rw [if_pos (by omega), if_pos (by rw [Int.toNat_natCast]; omega), Int.toNat_natCast]
  exact h1
theorem eqWins_l0 (l : List S33) (hmax : l.length ≤ 9223372036854775807) (d : Nat) : ∀ i : Nat, i + d = l.length → Ev (fun k => laws_eqWindowS.l0 k l l (i : Int)) true := by
  induction d with
  | zero => intro i hi; exact Ev.end_ (fun k => by simp only [laws_eqWindowS.l0]; rw [if_neg (by omega)])
  | succ d ih =>
    intro i hi
    have hlt : i < l.length := by omega
    obtain ⟨K2, h2⟩ := ih (i + 1) (by omega)
    refine ⟨K2 + 1, fun n hn => ?_⟩
    obtain ⟨k, rfl⟩ : ∃ k, n = k + 1 := ⟨n - 1, by omega⟩
    have e2 := h2 k (by omega)
    dsimp only at e2 ⊢
    simp only [laws_eqWindowS.l0, eqWin, Option.bind_some, if_true]
    rw [if_pos (by omega), if_pos (by omega), if_pos (by omega), wrap_succ i (by omega)]
    exact e2
theorem eqWins (l : List S33) (hmax : l.length ≤ 9223372036854775807) : Ev (fun k => laws_eqWindowS.f k l l) true := by
  obtain ⟨K, hK⟩ := eqWins_l0 l hmax l.length 0 (by omega)
  exact ⟨K, fun k hk => by dsimp only; unfold laws_eqWindowS.f; rw [if_pos rfl]; exact hK k hk⟩
def onAll (m : List (List Int)) (l : List S33) : Bool := l.all fun x => winOn m x.f0 x.f1 x.f2 x.f3
def wf4 (x : S33) : Prop := -9223372036854775808 ≤ x.f1 ∧ x.f1 ≤ 9223372036854775807
end Go.Proofs.Ytaoffejflichjaa.P
end
section
namespace Go.Proofs.Ytaoffejflichjaa.P
open Go.RowKit Go.Proofs.YtaoffejflichjaaW.PrintWords Go.Proofs.YtaoffejflichjaaW.PrintLast Go.Proofs.YtaoffejflichjaaW.PrintMore
set_option linter.unusedVariables false
set_option linter.unusedSimpArgs false
theorem l3Watched_l0 (m : List (List Int)) (hm : Fit m) (l : List S33) (hw : ∀ x ∈ l, wf4 x) (hlen : l.length ≤ 1048576) (d : Nat) : ∀ i : Nat, i + d = min l.length 13 →
    Ev (fun k => spec_l3Watched.l0 k l i m) (((l.drop i).take d).all (fun x => memOk m && winOn m x.f0 x.f1 x.f2 x.f3) && (memOk m && decide (l.length ≤ 12))) := by
  induction d with
  | zero =>
    intro i hi
    obtain ⟨K, hK⟩ := l2Mem m hm.1
    refine ⟨K + 2, fun k hk => ?_⟩
    obtain ⟨k, rfl⟩ : ∃ j, k = j + 1 + 1 := ⟨k - 2, by omega⟩
    have e1 := hK k (by omega)
    dsimp only at e1 ⊢
    have hj : spec_l3Watched.j1 (k + 1) l i false m = some (memOk m && decide (l.length ≤ 12)) := by
      unfold spec_l3Watched.j1
      rw [if_neg (by decide), e1, Option.bind_some]
      cases memOk m
      · rfl
      · rw [if_pos rfl]
        simp only [Bool.true_and, Option.some.injEq]
        rw [Bool.eq_iff_iff]
        simp only [decide_eq_true_eq]
        omega
    unfold spec_l3Watched.l0
    rw [List.take_zero, List.all_nil, Bool.true_and]
    by_cases h : (i : Int) < l.length
    · rw [if_pos h, decide_eq_false (show ¬ (i : Int) ≤ 12 by omega)]
      exact hj
    · rw [if_neg h]
      exact hj
  | succ d ih =>
    intro i hi
    have hlt : i < l.length := by omega
    obtain ⟨K, hK⟩ := l2Win m hm l[i].f0 l[i].f1 l[i].f2 l[i].f3 (hw _ (List.getElem_mem hlt))
    obtain ⟨K2, h2⟩ := ih (i + 1) (by omega)
    refine ⟨K + K2 + 2, fun k hk => ?_⟩
    obtain ⟨k, rfl⟩ : ∃ j, k = j + 1 + 1 := ⟨k - 2, by omega⟩
    have e1 := hK k (by omega)
    have e2 := h2 k (by omega)
    dsimp only at e1 e2 ⊢
    unfold spec_l3Watched.l0
    rw [if_pos (by omega), decide_eq_true (show (i : Int) ≤ 12 by omega)]
    unfold spec_l3Watched.j1
    rw [if_pos rfl, if_pos (by omega), if_pos (by omega), rdB hlt, e1, Option.bind_some, wrap_succ i (by omega), e2, List.drop_eq_getElem_cons hlt, List.take_succ_cons, List.all_cons]
    cases memOk m && winOn m l[i].f0 l[i].f1 l[i].f2 l[i].f3 <;> rfl
def watched (m : List (List Int)) (l : List S33) : Bool := memOk m && (onAll m l && decide (l.length ≤ 12))
theorem l3Watched_ev (m : List (List Int)) (hm : Fit m) (l : List S33) (hw : ∀ x ∈ l, wf4 x) (hlen : l.length ≤ 1048576) : Ev (fun k => spec_l3Watched.f k m l) (watched m l) := by
  obtain ⟨K, hK⟩ := l3Watched_l0 m hm l hw hlen (min l.length 13) 0 (by omega)
  refine ⟨K, fun k hk => ?_⟩
  have e1 := hK k hk
  refine e1.trans ?_
  unfold watched onAll
  rw [List.drop_zero, Option.some.injEq]
  by_cases h : l.length ≤ 12
  · rw [List.take_of_length_le (by omega), decide_eq_true h]
    cases memOk m
    · simp
    · simp
  · rw [decide_eq_false h]
    simp
theorem areWatched_ev (m : List (List Int)) (hm : Fit m) (l : List S33) : Ev (fun k => impl_areWatched.f k m l) (watched m l) := by
  obtain ⟨K, hK⟩ := areOn_ev m hm l
  refine ⟨K, fun k hk => ?_⟩
  have e1 := hK k hk
  dsimp only at e1 ⊢
  unfold impl_areWatched.f
  rw [e1, Option.bind_some]
  unfold watched onAll
  have e : decide ((l.length : Int) ≤ 12) = decide (l.length ≤ 12) := by
    rw [Bool.eq_iff_iff]; simp only [decide_eq_true_eq]; omega
  rw [e]
  cases memOk m <;> cases (l.all fun x => winOn m x.f0 x.f1 x.f2 x.f3) <;> rfl
end Go.Proofs.Ytaoffejflichjaa.P
end
section
namespace Go.Proofs.Ytaoffejflichjaa.P
open Go.RowKit Go.Proofs.YtaoffejflichjaaW.PrintWords Go.Proofs.YtaoffejflichjaaW.PrintLast Go.Proofs.YtaoffejflichjaaW.PrintMore
set_option linter.unusedVariables false
def Sm (s l : Int) : Prop := -1000000 ≤ s ∧ s ≤ 1000000 ∧ -1000000 ≤ l ∧ l ≤ 1000000
theorem win_sm {m : List (List Int)} {a s l c : Int} (hok : memOk m = true) (h : winOn m a s l c = true) : Sm s l ∧ Sm s c ∧ 0 ≤ s ∧ 0 ≤ l ∧ l ≤ c ∧ c ≤ 64 ∧ (0 ≤ a ∧ a < m.length) ∧ s + c ≤ (m.getD a.toNat []).length ∧ (m.getD a.toNat []).length ≤ 64 := by
  rw [winOn_iff] at h
  have hlt : a.toNat < m.length := by omega
  have := memOk_each hok _ (getD_mem m [] a.toNat hlt)
  unfold Sm
  omega
end Go.Proofs.Ytaoffejflichjaa.P
end
section
namespace Go.Proofs.Ytaoffejflichjaa.P
open Go.RowKit Go.Proofs.YtaoffejflichjaaW.PrintWords Go.Proofs.YtaoffejflichjaaW.PrintLast Go.Proofs.YtaoffejflichjaaW.PrintMore
set_option linter.unusedVariables false
set_option linter.unusedSimpArgs false
def ov (a s l b t u : Int) : Int := if a = b then (if mx s t < mn (s + l) (t + u) then mn (s + l) (t + u) - mx s t else 0) else 0
theorem least_eq (x y : Int) : spec_l1Least.f x y = some (mn x y) := by
  unfold spec_l1Least.f mn
  by_cases h : x < y
  · rw [if_pos h, if_neg (by omega)]
  · rw [if_neg h]
    by_cases h2 : y < x
    · rw [if_pos h2]
    · rw [if_neg h2, show x = y by omega]
theorem most_eq (x y : Int) : spec_l1Most.f x y = some (mx x y) := by
  unfold spec_l1Most.f mx
  by_cases h : x > y
  · rw [if_pos h, if_neg (by omega)]
  · rw [if_neg h]
    by_cases h2 : x < y
    · rw [if_pos h2]
    · rw [if_neg h2, show x = y by omega]
theorem mx_bd (x y : Int) : (mx x y = x ∨ mx x y = y) ∧ x ≤ mx x y ∧ y ≤ mx x y := by unfold mx; split <;> omega
theorem mn_bd (x y : Int) : (mn x y = x ∨ mn x y = y) ∧ mn x y ≤ x ∧ mn x y ≤ y := by unfold mn; split <;> omega
theorem overlap_eq (a s l c b t u d : Int) (h1 : Sm s l) (h2 : Sm t u) : spec_l2Overlap.f a s l c b t u d = some (ov a s l b t u) := by
  unfold Sm at h1 h2
  unfold spec_l2Overlap.f ov
  have hx := mx_bd s t
  have hn := mn_bd (s + l) (t + u)
  by_cases h : a = b
  · rw [if_pos h, if_pos h, wrap_in (x := s + l) (by omega) (by omega), wrap_in (x := t + u) (by omega) (by omega)]
    simp only [least_eq, most_eq, Option.bind_some]
    rw [wrap_in (x := mn (s + l) (t + u) - mx s t) (by omega) (by omega)]
    by_cases h3 : mx s t < mn (s + l) (t + u)
    · rw [if_pos h3]; unfold mx; rw [if_pos (by unfold mx at h3; omega)]
    · rw [if_neg h3]; unfold mx; rw [if_neg (by unfold mx at h3; omega)]
  · rw [if_neg h, if_neg h]
theorem common_eq (a s l c b t u d : Int) (h1 : Sm s l) (h2 : Sm t u) : impl_common.f a s l c b t u d = some (ov a s l b t u, if 0 < ov a s l b t u then mx s t else -1) := by
  unfold Sm at h1 h2
  have hx := mx_bd s t
  have hn := mn_bd (s + l) (t + u)
  unfold impl_common.f ov
  by_cases h : a = b
  · rw [if_pos h, if_pos h, wrap_in (x := s + l) (by omega) (by omega), wrap_in (x := t + u) (by omega) (by omega)]
    by_cases h3 : mx s t < mn (s + l) (t + u)
    · rw [if_neg (by omega), if_pos h3, if_pos (by omega), wrap_in (x := mn (s + l) (t + u) - mx s t) (by omega) (by omega)]
    · rw [if_pos (by omega), if_neg h3, if_neg (by omega)]
  · rw [if_neg h, if_neg h, if_neg (by omega)]
theorem shared_eq (a s l c b t u d : Int) (h1 : Sm s l) (h2 : Sm t u) : impl_areShared.f a s l c b t u d = some (decide (0 < ov a s l b t u)) := by
  unfold impl_areShared.f
  rw [common_eq a s l c b t u d h1 h2]
  rfl
end Go.Proofs.Ytaoffejflichjaa.P
end
section
namespace Go.Proofs.Ytaoffejflichjaa.P
open Go.RowKit Go.Proofs.YtaoffejflichjaaW.PrintWords Go.Proofs.YtaoffejflichjaaW.PrintLast Go.Proofs.YtaoffejflichjaaW.PrintMore
set_option linter.unusedVariables false
set_option linter.unusedSimpArgs false
theorem numsF_congr (p q : Int → S33 → Bool) : ∀ (l : List S33) (i : Int), (∀ x ∈ l, ∀ j, p j x = q j x) → numsF p l i = numsF q l i
  | [], _, _ => rfl
  | x :: xs, i, h => by
    simp only [numsF, h x List.mem_cons_self i, numsF_congr p q xs (i + 1) (fun y hy => h y (List.mem_cons_of_mem _ hy))]
theorem numsF_nil (p : S33 → Bool) : ∀ (l : List S33) (i : Int), numsF (fun _ x => p x) l i = [] ↔ ∀ x ∈ l, p x = false
  | [], _ => by simp [numsF]
  | x :: xs, i => by
    have ih := numsF_nil p xs (i + 1)
    simp only [numsF]
    by_cases h : p x = true
    · rw [if_pos h]
      simp [h]
    · rw [if_neg h, ih]
      simp [h]
theorem onAll_each {m : List (List Int)} {l : List S33} (h : watched m l = true) : memOk m = true ∧ (∀ x ∈ l, winOn m x.f0 x.f1 x.f2 x.f3 = true) ∧ l.length ≤ 12 := by
  unfold watched onAll at h
  simp only [Bool.and_eq_true, decide_eq_true_eq, List.all_eq_true] at h
  exact ⟨h.1, h.2.1, h.2.2⟩
theorem win_lt {m : List (List Int)} {x : S33} (hok : memOk m = true) (h : winOn m x.f0 x.f1 x.f2 x.f3 = true) : 0 ≤ x.f1 ∧ 0 ≤ x.f2 ∧ x.f2 ≤ x.f3 ∧ x.f3 ≤ 64 ∧ x.f1 + x.f3 ≤ 64 := by
  obtain ⟨_, _, h0, h1, h2, h3, h4, h5, h6⟩ := win_sm hok h
  have hlt : x.f0.toNat < m.length := by omega
  have := memOk_each hok _ (getD_mem m [] x.f0.toNat hlt)
  omega
theorem shrB_ov (y x : S33) (h1 : Sm y.f1 y.f2) (h2 : Sm x.f1 x.f2) : shrB y x = decide (0 < ov y.f0 y.f1 y.f2 x.f0 x.f1 x.f2) := by
  have h := shared_eq y.f0 y.f1 y.f2 y.f3 x.f0 x.f1 x.f2 x.f3 h1 h2
  rw [shrB_eq] at h
  exact Option.some.inj h
def trodL (l : List S33) (y : S33) (n : Int) : List Int :=
  if n > y.f3 - y.f2 then [] else numsF (fun _ x => decide (0 < ov y.f0 (y.f1 + y.f2) n x.f0 x.f1 x.f2)) l 0
theorem rd_mem {l : List S33} {i : Int} (h0 : 0 ≤ i) (h1 : i < l.length) : rd_T33 l i ∈ l := by
  unfold rd_T33
  rw [List.getD_eq_getElem?_getD, List.getElem?_eq_getElem (by omega : i.toNat < l.length)]
  exact List.getElem_mem _
theorem impl_trodden_eq (m : List (List Int)) (l : List S33) (hw : watched m l = true) (i n : Int) (h0 : 0 ≤ i) (h1 : i < l.length) (hn : 0 ≤ n) : impl_trodden.f l i n = some (trodL l (rd_T33 l i) n) := by
  obtain ⟨hok, hon, hlen⟩ := onAll_each hw
  have hy := win_lt hok (hon _ (rd_mem h0 h1))
  unfold impl_trodden.f trodL
  rw [if_pos h0, if_pos h1, if_pos (by omega), wrap_in (x := (rd_T33 l i).f3 - (rd_T33 l i).f2) (by omega) (by omega), wrap_in (x := (rd_T33 l i).f1 + (rd_T33 l i).f2) (by omega) (by omega)]
  by_cases h : n > (rd_T33 l i).f3 - (rd_T33 l i).f2
  · rw [if_pos h, if_pos h]
  · rw [if_neg h, if_neg h]
    congr 1
    refine numsF_congr _ _ _ _ (fun x hx j => ?_)
    have hx' := win_lt hok (hon x hx)
    exact shrB_ov _ _ (by unfold Sm; dsimp only; omega) (by unfold Sm; omega)
theorem spec_trodden_l0 (l : List S33) (A s n c : Int) (hl : l.length ≤ 12) (hov : ∀ x ∈ l, spec_l2Overlap.f A s n c x.f0 x.f1 x.f2 x.f3 = some (ov A s n x.f0 x.f1 x.f2)) (d : Nat) : ∀ (i : Nat) (acc : List Int), i + d = l.length → acc.length ≤ i →
    Ev (fun k => spec_l3Trodden.l0 k l acc (i : Int) A s n c) (acc ++ numsF (fun _ x => decide (0 < ov A s n x.f0 x.f1 x.f2)) (l.drop i) i) := by
  induction d with
  | zero =>
    intro i acc hi ha
    refine Ev.end_ (fun k => ?_)
    rw [spec_l3Trodden.l0, if_neg (by omega), List.drop_eq_nil_of_le (by omega)]
    simp [numsF]
  | succ d ih =>
    intro i acc hi ha
    have hlt : i < l.length := by omega
    rw [numsF_drop _ l i hlt, rdB hlt]
    have ho := hov l[i] (List.getElem_mem hlt)
    by_cases h : 0 < ov A s n l[i].f0 l[i].f1 l[i].f2
    · obtain ⟨K, hK⟩ := ih (i + 1) (acc ++ [(i : Int)]) (by omega) (by simp; omega)
      refine ⟨K + 1, fun k hk => ?_⟩
      obtain ⟨k, rfl⟩ : ∃ j, k = j + 1 := ⟨k - 1, by omega⟩
      have e1 := hK k (by omega)
      dsimp only at e1 ⊢
      rw [spec_l3Trodden.l0, if_pos (by omega), if_pos (by omega), rdB hlt, ho, Option.bind_some, if_pos (by omega), if_pos (by omega), wrap_succ i (by omega), e1, if_pos (by simpa using h)]
      simp
    · obtain ⟨K, hK⟩ := ih (i + 1) acc (by omega) (by omega)
      refine ⟨K + 1, fun k hk => ?_⟩
      obtain ⟨k, rfl⟩ : ∃ j, k = j + 1 := ⟨k - 1, by omega⟩
      have e1 := hK k (by omega)
      dsimp only at e1 ⊢
      rw [spec_l3Trodden.l0, if_pos (by omega), if_pos (by omega), rdB hlt, ho, Option.bind_some, if_neg (by omega), wrap_succ i (by omega), e1, if_neg (by simpa using h)]
theorem spec_trodden_ev (m : List (List Int)) (l : List S33) (hw : watched m l = true) (i n : Int) (h0 : 0 ≤ i) (h1 : i < l.length) (hn : 0 ≤ n) : Ev (fun k => spec_l3Trodden.f k l i n) (trodL l (rd_T33 l i) n) := by
  obtain ⟨hok, hon, hlen⟩ := onAll_each hw
  have hy := win_lt hok (hon _ (rd_mem h0 h1))
  unfold trodL
  by_cases h : n > (rd_T33 l i).f3 - (rd_T33 l i).f2
  · refine ⟨0, fun k _ => ?_⟩
    dsimp only
    rw [spec_l3Trodden.f, Option.bind_some, if_pos h0, if_pos h1, spec_l2Room.f, Option.bind_some, wrap_in (x := (rd_T33 l i).f3 - (rd_T33 l i).f2) (by omega) (by omega), if_pos h, if_pos h]
  · obtain ⟨K, hK⟩ := spec_trodden_l0 l (rd_T33 l i).f0 ((rd_T33 l i).f1 + (rd_T33 l i).f2) n ((rd_T33 l i).f3 - (rd_T33 l i).f2) hlen (fun x hx => by
      have hx' := win_lt hok (hon x hx)
      exact overlap_eq _ _ _ _ _ _ _ _ (by unfold Sm; omega) (by unfold Sm; omega)) l.length 0 [] (by omega) (by simp)
    refine ⟨K, fun k hk => ?_⟩
    have e1 := hK k hk
    dsimp only at e1 ⊢
    rw [spec_l3Trodden.f, Option.bind_some, if_pos h0, if_pos h1, spec_l2Room.f, Option.bind_some, wrap_in (x := (rd_T33 l i).f3 - (rd_T33 l i).f2) (by omega) (by omega), if_neg h, if_neg h, spec_l2Slice.f, Option.bind_some]
    dsimp only
    rw [wrap_in (x := (rd_T33 l i).f1 + (rd_T33 l i).f2) (by omega) (by omega), wrap_in (x := (rd_T33 l i).f2 + n) (by omega) (by omega), wrap_in (x := (rd_T33 l i).f2 + n - (rd_T33 l i).f2) (by omega) (by omega), wrap_in (x := (rd_T33 l i).f3 - (rd_T33 l i).f2) (by omega) (by omega)]
    rw [show (rd_T33 l i).f2 + n - (rd_T33 l i).f2 = n by omega]
    simpa using e1
def numOk (m : List (List Int)) (l : List S33) (i : Int) : Bool := watched m l && inB i 0 ((l.length : Int) - 1)
theorem numOk_iff {m : List (List Int)} {l : List S33} {i : Int} : numOk m l i = true ↔ watched m l = true ∧ 0 ≤ i ∧ i < l.length := by
  unfold numOk inB
  simp only [Bool.and_eq_true, decide_eq_true_eq]
  exact ⟨fun h => ⟨h.1, by omega, by omega⟩, fun h => ⟨h.1, by omega, by omega⟩⟩
theorem l3Number_ev (m : List (List Int)) (hm : Fit m) (l : List S33) (hw : ∀ x ∈ l, wf4 x) (hlen : l.length ≤ 1048576) (i : Int) : Ev (fun k => spec_l3Number.f k m l i) (numOk m l i) := by
  obtain ⟨K, hK⟩ := l3Watched_ev m hm l hw hlen
  refine ⟨K, fun k hk => ?_⟩
  have e1 := hK k hk
  dsimp only at e1 ⊢
  rw [spec_l3Number.f, e1, Option.bind_some, l1In_eq, wrap_in (x := (l.length : Int) - 1) (by omega) (by omega), Option.bind_some]
  unfold numOk
  cases watched m l <;> rfl
end Go.Proofs.Ytaoffejflichjaa.P
end
section
namespace Go.Proofs.Ytaoffejflichjaa.P
open Go.RowKit Go.Proofs.YtaoffejflichjaaW.PrintWords Go.Proofs.YtaoffejflichjaaW.PrintLast Go.Proofs.YtaoffejflichjaaW.PrintMore
set_option linter.unusedVariables false
set_option linter.unusedSimpArgs false
def free (l : List S33) (y : S33) (n : Int) : Prop := ∀ x ∈ l, ¬ 0 < ov y.f0 (y.f1 + y.f2) n x.f0 x.f1 x.f2
theorem trodL_free (l : List S33) (y : S33) (n : Int) (h : ¬ n > y.f3 - y.f2) : trodL l y n = [] ↔ free l y n := by
  unfold trodL free
  rw [if_neg h, numsF_nil (fun x => decide (0 < ov y.f0 (y.f1 + y.f2) n x.f0 x.f1 x.f2))]
  simp
theorem ov_mono (a s b t u : Int) {n n' : Int} (h : n ≤ n') (h0 : 0 < ov a s n b t u) : 0 < ov a s n' b t u := by
  unfold ov mx mn at *
  by_cases e : a = b
  · rw [if_pos e] at *
    split at h0 <;> repeat' split <;> omega
  · rw [if_neg e] at h0; omega
theorem free_mono {l : List S33} {y : S33} {n n' : Int} (h : n ≤ n') (hf : free l y n') : free l y n := fun x hx h0 => hf x hx (ov_mono _ _ _ _ _ h h0)
theorem free_zero (l : List S33) (y : S33) : free l y 0 := by
  intro x hx h0
  unfold ov mx mn at h0
  by_cases e : y.f0 = x.f0
  · rw [if_pos e] at h0
    repeat' split at h0
    all_goals omega
  · rw [if_neg e] at h0; omega
theorem best_free (l : List S33) (y : S33) : ∀ R : Nat, ∃ M : Nat, M ≤ R ∧ free l y M ∧ ∀ n : Nat, M < n → n ≤ R → ¬ free l y n
  | 0 => ⟨0, Nat.le_refl _, free_zero l y, fun n h1 h2 => by omega⟩
  | R + 1 => by
    by_cases h : free l y ((R + 1 : Nat) : Int)
    · exact ⟨R + 1, Nat.le_refl _, h, fun n h1 h2 => by omega⟩
    · obtain ⟨M, h1, h2, h3⟩ := best_free l y R
      refine ⟨M, by omega, h2, fun n h4 h5 => ?_⟩
      by_cases e : n = R + 1
      · subst e; exact h
      · exact h3 n h4 (by omega)
theorem safe_spec_l0 (m : List (List Int)) (l : List S33) (hw : watched m l = true) (i : Int) (h0 : 0 ≤ i) (h1 : i < l.length) (M R : Nat) (hR : (R : Int) = (rd_T33 l i).f3 - (rd_T33 l i).f2) (hM : M ≤ R) (hf : free l (rd_T33 l i) M) (hn : ∀ n : Nat, M < n → n ≤ R → ¬ free l (rd_T33 l i) n) (d : Nat) : ∀ n : Nat, n + d = M →
    Ev (fun k => spec_SafeToAppend.l0 k l i (n : Int)) ((M : Int), true) := by
  obtain ⟨hok, hon, hlen⟩ := onAll_each hw
  have hy := win_lt hok (hon _ (rd_mem h0 h1))
  have room : spec_l2Room.f (rd_T33 l i).f0 (rd_T33 l i).f1 (rd_T33 l i).f2 (rd_T33 l i).f3 = some (R : Int) := by
    rw [spec_l2Room.f, wrap_in (x := (rd_T33 l i).f3 - (rd_T33 l i).f2) (by omega) (by omega), hR]
  induction d with
  | zero =>
    intro n hd
    obtain rfl : n = M := by omega
    by_cases hlt : n < R
    · obtain ⟨K, hK⟩ := spec_trodden_ev m l hw i ((n : Int) + 1) h0 h1 (by omega)
      have hne : trodL l (rd_T33 l i) ((n : Int) + 1) ≠ [] := by
        rw [Ne, trodL_free _ _ _ (by omega)]
        have := hn (n + 1) (by omega) (by omega)
        simpa using this
      have hpos : (trodL l (rd_T33 l i) ((n : Int) + 1)).length ≠ 0 := fun h => hne (List.eq_nil_of_length_eq_zero h)
      refine ⟨K + 1, fun k hk => ?_⟩
      obtain ⟨k, rfl⟩ : ∃ j, k = j + 1 := ⟨k - 1, by omega⟩
      have e1 := hK k (by omega)
      dsimp only at e1 ⊢
      rw [spec_SafeToAppend.l0, if_pos h0, if_pos h1, room, Option.bind_some, if_pos (by omega), wrap_in (x := (n : Int) + 1) (by omega) (by omega), e1, Option.bind_some, if_neg (by omega)]
    · refine Ev.end_ (fun k => ?_)
      rw [spec_SafeToAppend.l0, if_pos h0, if_pos h1, room, Option.bind_some, if_neg (by omega)]
  | succ d ih =>
    intro n hd
    obtain ⟨K, hK⟩ := spec_trodden_ev m l hw i ((n : Int) + 1) h0 h1 (by omega)
    have he : trodL l (rd_T33 l i) ((n : Int) + 1) = [] := by
      rw [trodL_free _ _ _ (by omega)]
      exact free_mono (by omega) hf
    obtain ⟨K2, hK2⟩ := ih (n + 1) (by omega)
    refine ⟨K + K2 + 1, fun k hk => ?_⟩
    obtain ⟨k, rfl⟩ : ∃ j, k = j + 1 := ⟨k - 1, by omega⟩
    have e1 := hK k (by omega)
    have e2 := hK2 k (by omega)
    dsimp only at e1 e2 ⊢
    rw [spec_SafeToAppend.l0, if_pos h0, if_pos h1, room, Option.bind_some, if_pos (by omega), wrap_in (x := (n : Int) + 1) (by omega) (by omega), e1, Option.bind_some, he, if_pos (by simp)]
    exact e2
theorem safe_impl_l0 (m : List (List Int)) (l : List S33) (hw : watched m l = true) (i : Int) (h0 : 0 ≤ i) (h1 : i < l.length) (M R : Nat) (hR : (R : Int) = (rd_T33 l i).f3 - (rd_T33 l i).f2) (hM : M ≤ R) (hf : free l (rd_T33 l i) M) (hn : ∀ n : Nat, M < n → n ≤ R → ¬ free l (rd_T33 l i) n) (d : Nat) : ∀ n : Nat, n = M + d → n ≤ R →
    Ev (fun k => impl_SafeToAppend.l0 k l i (n : Int)) ((M : Int), true) := by
  obtain ⟨hok, hon, hlen⟩ := onAll_each hw
  have hy := win_lt hok (hon _ (rd_mem h0 h1))
  induction d with
  | zero =>
    intro n hd hnR
    obtain rfl : n = M := by omega
    refine Ev.end_ (fun k => ?_)
    rw [impl_SafeToAppend.l0, impl_trodden_eq m l hw i n h0 h1 (by omega), Option.bind_some, (trodL_free _ _ _ (by omega)).mpr hf, if_neg (by simp)]
  | succ d ih =>
    intro n hd hnR
    have hne : trodL l (rd_T33 l i) (n : Int) ≠ [] := by
      rw [Ne, trodL_free _ _ _ (by omega)]
      exact hn n (by omega) (by omega)
    have hpos : (trodL l (rd_T33 l i) (n : Int)).length ≠ 0 := fun h => hne (List.eq_nil_of_length_eq_zero h)
    obtain ⟨K2, hK2⟩ := ih (n - 1) (by omega) (by omega)
    refine ⟨K2 + 1, fun k hk => ?_⟩
    obtain ⟨k, rfl⟩ : ∃ j, k = j + 1 := ⟨k - 1, by omega⟩
    have e2 := hK2 k (by omega)
    dsimp only at e2 ⊢
    rw [impl_SafeToAppend.l0, impl_trodden_eq m l hw i n h0 h1 (by omega), Option.bind_some, if_pos (by omega), wrap_in (x := (n : Int) - 1) (by omega) (by omega), show (n : Int) - 1 = ((n - 1 : Nat) : Int) by omega]
    exact e2
theorem safe_both (m : List (List Int)) (hm : Fit m) (l : List S33) (hw : ∀ x ∈ l, wf4 x) (hlen : l.length ≤ 1048576) (i : Int) : ∃ r : Int × Bool, Ev (fun k => spec_SafeToAppend.f k m l i) r ∧ Ev (fun k => impl_SafeToAppend.f k m l i) r := by
  obtain ⟨K1, hK1⟩ := l3Number_ev m hm l hw hlen i
  obtain ⟨K2, hK2⟩ := areWatched_ev m hm l
  cases h : numOk m l i with
  | false =>
    refine ⟨(0, false), ⟨K1, fun k hk => ?_⟩, ⟨K2 + 1, fun k hk => ?_⟩⟩
    · have e1 := hK1 k hk
      dsimp only at e1 ⊢
      rw [spec_SafeToAppend.f, e1, h]; rfl
    · obtain ⟨k, rfl⟩ : ∃ j, k = j + 1 := ⟨k - 1, by omega⟩
      have e2 := hK2 (k + 1) (by omega)
      dsimp only at e2 ⊢
      rw [impl_SafeToAppend.f, e2, Option.bind_some, within_eq, wrap_in (x := (l.length : Int) - 1) (by omega) (by omega), Option.bind_some]
      unfold numOk at h
      cases h1 : watched m l with
      | false => rw [if_neg (by decide), impl_SafeToAppend.j0, if_pos rfl]
      | true =>
        rw [h1, Bool.true_and] at h
        rw [if_pos rfl, h, impl_SafeToAppend.j0]; rfl
  | true =>
    obtain ⟨h1, h2, h3⟩ := numOk_iff.mp h
    obtain ⟨hok, hon, h12⟩ := onAll_each h1
    have hy := win_lt hok (hon _ (rd_mem h2 h3))
    obtain ⟨R, hR⟩ : ∃ R : Nat, (R : Int) = (rd_T33 l i).f3 - (rd_T33 l i).f2 := ⟨((rd_T33 l i).f3 - (rd_T33 l i).f2).toNat, by omega⟩
    obtain ⟨M, hM, hf, hn⟩ := best_free l (rd_T33 l i) R
    obtain ⟨K3, hK3⟩ := safe_spec_l0 m l h1 i h2 h3 M R hR hM hf hn M 0 (by omega)
    obtain ⟨K4, hK4⟩ := safe_impl_l0 m l h1 i h2 h3 M R hR hM hf hn (R - M) R (by omega) (Nat.le_refl _)
    refine ⟨((M : Int), true), ⟨K1 + K3, fun k hk => ?_⟩, ⟨K2 + K4 + 1, fun k hk => ?_⟩⟩
    · have e1 := hK1 k (by omega)
      have e3 := hK3 k (by omega)
      dsimp only at e1 e3 ⊢
      rw [spec_SafeToAppend.f, e1, h, Option.bind_some, if_pos rfl]
      exact e3
    · obtain ⟨k, rfl⟩ : ∃ j, k = j + 1 := ⟨k - 1, by omega⟩
      have e2 := hK2 (k + 1) (by omega)
      have e4 := hK4 k (by omega)
      dsimp only at e2 e4 ⊢
      have h5 : inB i 0 ((l.length : Int) - 1) = true := by unfold numOk at h; rw [h1, Bool.true_and] at h; exact h
      rw [impl_SafeToAppend.f, e2, Option.bind_some, within_eq, wrap_in (x := (l.length : Int) - 1) (by omega) (by omega), Option.bind_some, if_pos h1, h5, impl_SafeToAppend.j0, if_neg (by decide), if_pos h2, if_pos h3, wrap_in (x := (rd_T33 l i).f3 - (rd_T33 l i).f2) (by omega) (by omega), ← hR]
      exact e4
theorem FnExactSafeToAppend_ok : FnExactSafeToAppendPure := by
  intro m l i hm hl _
  have hfit : Fit m := ⟨hm.1, fun a ha => (hm.2 a ha).1⟩
  have hw : ∀ x ∈ l.map cvW, wf4 x := fun x hx => by
    obtain ⟨y, hy, rfl⟩ := List.mem_map.mp hx
    exact wf64 (hl.2 y hy).2.1
  obtain ⟨r, ⟨K0, h0⟩, hz⟩ := szMem m hfit
  dsimp only at h0
  by_cases hr : r < 0
  · exact ⟨K0, by simp only [laws_FnExactSafeToAppend.f, h0 K0 (Nat.le_refl _), Option.bind_some]; rw [if_pos hr]⟩
  · obtain ⟨hsm, hr1⟩ := hz hr
    obtain ⟨r2, hq, hz2⟩ := szWins l r hl.1 hr hr1
    by_cases hr2 : r2 < 0
    · exact ⟨K0, by simp only [laws_FnExactSafeToAppend.f, h0 K0 (Nat.le_refl _), Option.bind_some]; rw [if_neg hr, hq, Option.bind_some, if_pos hr2]⟩
    · obtain ⟨hlen, _⟩ := hz2 hr2
      have hlen' : (l.map cvW).length ≤ 1048576 := by rw [List.length_map]; exact hlen
      obtain ⟨K1, h1⟩ := toMem m hsm
      obtain ⟨K4, h4⟩ := eqMem m hfit
      obtain ⟨K5, h5⟩ := toWins l hlen
      obtain ⟨K6, h6⟩ := eqWins (l.map cvW) (by omega)
      obtain ⟨⟨g, ok⟩, ⟨K2, h2⟩, ⟨K3, h3⟩⟩ := safe_both m hfit (l.map cvW) hw hlen' i
      dsimp only at h1 h2 h3 h4 h5 h6
      obtain ⟨K, hK⟩ : ∃ K, K = K0 + K1 + K2 + K3 + K4 + K5 + K6 := ⟨_, rfl⟩
      refine ⟨K + 1, ?_⟩
      have e0 := h0 (K + 1) (by omega); have e1 := h1 (K + 1) (by omega); have e2 := h2 (K + 1) (by omega); have e3 := h3 (K + 1) (by omega); have e5 := h5 (K + 1) (by omega); have e4 := h4 K (by omega); have e6 := h1 K (by omega); have e7 := h5 K (by omega); have e8 := h6 K (by omega)
      simp only [laws_FnExactSafeToAppend.f, e0, e1, e2, e3, e5, hq, Option.bind_some]
      rw [if_neg hr, if_neg hr2]
      simp [laws_FnExactSafeToAppend.j0, e4, e6, e7, e8]
end Go.Proofs.Ytaoffejflichjaa.P
end
section
namespace Go.Proofs.Ytaoffejflichjaa.fnExactSafeToAppend
open Go.ChangeShapes Go.WideShapes Go.ChangeAt Go.RowKit Go.Proofs.Ytaoffejflichjaa.P Go.Proofs.YtaoffejflichjaaW.PrintWords Go.Proofs.YtaoffejflichjaaW.PrintLast Go.Proofs.YtaoffejflichjaaW.PrintMore
open Go.ChangeMaps (open_string shut_string)
set_option linter.unusedVariables false
set_option linter.unusedSimpArgs false
theorem own : ownKnob Try.prog.godebug = none := by kernel_rfl
theorem laidOut : laidOutB Try.prog = true := by kernel_rfl
set_option maxRecDepth 100000 in
theorem lifted (os : Os) (started : os.Started) (H : Type) (enc : TypeId × Value → H) :
    ReturnsInHanded {} Try.checked os 4 .any (Rows.fnExactSafeToAppendSpec.pre6 enc Try.prog Try.f4 Rows.fnExactSafeToAppendRow.domain false) (Rows.fnExactSafeToAppendSpec.post enc Try.prog Try.f4 false true false false) := by
  refine returnsInHanded_of_change_sized (C := Try.checked) own started (by kernel_rfl) Try.func4
    (ChangeSpec.witness6 (enc := enc) (C := Try.checked) false ⟨#[], #[.agg #[.slice none 0 0], .slice none 0 0, .int .i64 0], []⟩ 8 (by kernel_rfl) (by kernel_rfl) (by kernel_rfl) (by kernel_rfl)) ?_
  intro W base args ds gs before hval0 hW hcnd hsz0 _
  have hval : ∀ (j : Nat) t v, Try.f4.params[j]? = some t → args[j]? = some v → Value.okWide Try.prog W .any base t v := hval0
  have hW' := hW
  obtain ⟨p, q, hA0, hV, rfl, hfz, hnd⟩ := hW
  have hA : DataW.TrodAll enc Try.prog W 0 (fun _ => true) true Try.f4.params.toList args.toList ds p := hA0
  rw [Try.params4] at hA hval
  obtain ⟨v0, vs0, d0, ds0, p0, q0, hargs, rfl, rfl, h0, r0⟩ := trodAll_cons hA
  obtain ⟨v1, vs1, d1, ds1, p1, q1, rfl, rfl, rfl, h1, r1⟩ := trodAll_cons r0
  obtain ⟨v2, vs2, d2, ds2, p2, q2, rfl, rfl, rfl, h2, r2⟩ := trodAll_cons r1
  obtain ⟨rfl, rfl, rfl⟩ := trodAll_nil r2
  obtain rfl : args = #[v0, v1, v2] := by cases args; simp_all
  obtain ⟨rfl, rfl⟩ := trodVars_none hV
  have k0_ := h0
  have lt0 : ∀ x ∈ p0, x.block < W.heap.size := by obtain ⟨m, hm⟩ := k0_; exact DataW.trod_lt m _ _ _ hm
  obtain ⟨v0_0, y0_0, nn0, rfl, h0_0⟩ := byval1 Try.underlying24 (by kernel_rfl) (by kernel_rfl) (hval 0 24 v0 rfl rfl) h0
  obtain ⟨l0_0, hk0_0, w0_0⟩ := opn_slice (d := (Kd.slice 5 (Kd.int .u8))) (Q := (fun l => l.length ≤ 9223372036854775807 ∧ ∀ x ∈ l, (fun x => (Lit.int .u8 x).wf = true) x)) Try.underlying22 (by kernel_rfl) (fun _ _ _ h => opn_slice (d := (Kd.int .u8)) (Q := (fun x => (Lit.int .u8 x).wf = true)) Try.underlying28 (by kernel_rfl) (fun _ _ _ h => opn_int Try.underlying5 h) h) h0_0
  obtain ⟨A0_0, c0_0, e0_0, hc0_0, hr0_0⟩ := hk0_0
  simp only [List.cons.injEq, and_true] at e0_0
  subst e0_0
  have k1_ := h1
  have lt1 : ∀ x ∈ p1, x.block < W.heap.size := by obtain ⟨m, hm⟩ := k1_; exact DataW.trod_lt m _ _ _ hm
  obtain ⟨nn1, h1_0⟩ := h1
  obtain ⟨A_, n_, c_, rfl⟩ := okWide_slice Try.underlying40 (hval 1 40 v1 rfl rfl)
  obtain ⟨l1, hk1, w1⟩ := opn_slice (d := k26) (Q := (fun x => (fun x => (Lit.int .i64 x).wf = true) x.f0 ∧ (fun x => (Lit.int .i64 x).wf = true) x.f1 ∧ (fun x => (Lit.int .i64 x).wf = true) x.f2 ∧ (fun x => (Lit.int .i64 x).wf = true) x.f3)) Try.underlying40 (by kernel_rfl) (fun _ _ _ h => opn_S26 h) h1_0
  obtain ⟨A1, c1, e1, hc1, hr1⟩ := hk1
  simp only [Value.cells, List.cons.injEq, and_true, Array.toList] at e1
  simp only [Value.slice.injEq] at e1
  obtain ⟨rfl, rfl, rfl⟩ := e1
  have k2_ := h2
  have lt2 : ∀ x ∈ p2, x.block < W.heap.size := by obtain ⟨m, hm⟩ := k2_; exact DataW.trod_lt m _ _ _ hm
  obtain ⟨nn2, h2_0⟩ := h2
  obtain ⟨n_, rfl⟩ := okWide_int Try.underlying3 (hval 2 3 v2 rfl rfl)
  obtain ⟨a2, e2, w2⟩ := opn_int Try.underlying3 h2_0
  replace e2 := List.head_eq_of_cons_eq e2
  simp only [Value.int.injEq, true_and] at e2
  subst n_
  clear hA0 hval0 hsz0
  obtain ⟨k, hp⟩ := FnExactSafeToAppend_ok l0_0 l1 a2 w0_0 w1 w2
  refine (laws_FnExactSafeToAppend.calls k _ _ l0_0 _ _ l1 a2 true W hr0_0 hc0_0 hr1 hc1 hp).mono fun e W' ⟨he, bel0⟩ => ?_
  have bel : Below W.heap.size W W' := by first | exact bel0 | exact bel0.below
  subst he
  exact ⟨_, rfl, _, _, _, [], _, [], hW', trodAll_mk1 (shut_bool Try.underlying4 _), (trodAll_cons_mk (Below.trod laidOut (by kernel_rfl) (of_decide_eq_true (by kernel_rfl)) k0_ bel lt0) (trodAll_cons_mk (Below.trod laidOut (by kernel_rfl) (of_decide_eq_true (by kernel_rfl)) k1_ bel lt1) (trodAll_cons_mk (Below.trod laidOut (by kernel_rfl) (of_decide_eq_true (by kernel_rfl)) k2_ bel lt2) trodAll_mk0))), rfl, bel.frame _, fun h => by cases h⟩
theorem over : Rows.fnExactSafeToAppendRow.holds Try.pinned (OpenSpec.ofChange Rows.fnExactSafeToAppendSpec) :=
  OpenClaim.holds_of_wide 4 Try.f4 rfl rfl rfl rfl rfl rfl rfl ⟨rfl, rfl, rfl, rfl, rfl⟩ rfl rfl rfl rfl rfl (by kernel_rfl) Try.func4 (by kernel_rfl)
    (of_decide_eq_true (by kernel_rfl)) (by unfold Func.isWrapper; first | (rw [if_pos (by decide +kernel)]; kernel_rfl) | (rw [if_neg (by decide +kernel)]; exact ⟨rfl, rfl⟩))
    (fun os started H enc _ => lifted os started H enc)
theorem proved : Rows.FnExactSafeToAppendSaid := over
#print axioms proved
end Go.Proofs.Ytaoffejflichjaa.fnExactSafeToAppend
namespace Go.Proofs.Ytaoffejflichjaa
theorem fnExactSafeToAppend_holds : Rows.FnExactSafeToAppendSaid := fnExactSafeToAppend.proved
end Go.Proofs.Ytaoffejflichjaa
end
