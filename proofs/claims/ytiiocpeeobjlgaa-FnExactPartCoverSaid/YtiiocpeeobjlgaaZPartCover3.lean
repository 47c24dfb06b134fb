/- The texts YtiiocpeeobjlgaaCounts, YtiiocpeeobjlgaaCovI, YtiiocpeeobjlgaaSz, YtiiocpeeobjlgaaCovY, YtiiocpeeobjlgaaPx7, YtiiocpeeobjlgaaCovS, YtiiocpeeobjlgaaMarks, YtiiocpeeobjlgaaWalkFnExactPartCover, YtiiocpeeobjlgaaOpen, YtiiocpeeobjlgaaStFnExactPartCover, YtiiocpeeobjlgaaWatched, YtiiocpeeobjlgaaTrodQ, YtiiocpeeobjlgaaNotedP, YtiiocpeeobjlgaaCountsQ, YtiiocpeeobjlgaaMkBytesQ, YtiiocpeeobjlgaaMkWins, YtiiocpeeobjlgaaPureFnExactPartCover, YtiiocpeeobjlgaaRowFnExactPartCover, without what the row does not need: words for rows in memory, contracts of functions, plain lemmas, the row. -/
import Derived.Test.YtiiocpeeobjlgaaZPartCover2
import Derived.StillTailTactics
import Derived.Shelf.Abstract
import Derived.ProofKit
import Derived.Lib.SmallJoins
import Derived.Deep.Slices
import Derived.Deep.Strs
import Derived.WalkKit
import Derived.Test.YtiiocpeeobjlgaaRows
import Derived.OpenShut
import Derived.ShutString
import Derived.ChangeOld
import Derived.Below
import Derived.SizedLaws
section
namespace Go.Proofs.Ytiiocpeeobjlgaa.P
open Go.RowKit Go.Proofs.YtiiocpeeobjlgaaW.PrintWords Go.Proofs.YtiiocpeeobjlgaaW.PrintLast Go.Proofs.YtiiocpeeobjlgaaW.PrintMore
set_option linter.unusedVariables false
set_option linter.unusedSimpArgs false
def countsL (m : List (List Int)) (l : List S56) (a : Int) (n : Nat) : List Int := (List.range n).map fun (p : Nat) => ((numsF (fun _ x => seesB x a p) l 0).length : Int)
theorem countsL_len (m : List (List Int)) (l : List S56) (a : Int) (n : Nat) : (countsL m l a n).length = n := by simp [countsL]
theorem countsL_succ (m : List (List Int)) (l : List S56) (a : Int) (n : Nat) : countsL m l a (n + 1) = countsL m l a n ++ [((numsF (fun _ x => seesB x a n) l 0).length : Int)] := by simp [countsL, List.range_succ]
set_option maxHeartbeats 2000000 in
set_option maxRecDepth 100000 in
theorem counts_no1 (k : Nat) (A0 : Option Addr) (c0 : Nat) (m : List (List Int)) (A1 : Option Addr) (c1 : Nat) (l : List S56) (a : Int) (w : World) (hr0 : Kd.C (Kd.slice 5 (Kd.int .u8)) w A0 m.length m) (hc0 : m.length ≤ c0) (hr1 : Kd.C k56 w A1 l.length l) (hc1 : l.length ≤ c1) (h1 : impl_areWatched.f k m l = some false) :
    Calls Try.prog 29 #[.agg #[.slice A0 m.length c0], .slice A1 l.length c1, .int .i64 a] w fun e w' => e = .returned (.tuple #[.slice none 0 0, .bool false]) ∧ Below w.heap.size w w' := by
  have hu := Try.underlying31
  have HR0 := Aside0.mk hr0
  have HC0 := Aside0.mk hc0
  have HR1 := Aside0.mk hr1
  have HC1 := Aside0.mk hc1
  clear hr0 hc0 hr1 hc1
  have HB := Aside0.mk (Below.refl w.heap.size w)
  have HA1 := Aside0.mk h1
  clear h1
  go_enter Try.func29, Try.ntmps29
  go_wp2_with (first | ((with_reducible refine gate_dst (N := 3) rfl ?_); refine box_event ?hg (N := 3) ?hd (cs := #[.slice A0 m.length c0]) (t := 31) ?hr ?_; (case hd => rfl); (case hg => rfl); (case hr => first | (go_simp; done) | (go_simp; rfl)); intro g3 hg w3 hbox hb; have n0_ := Aside0.mk (below_step (by repeat (first | (with_reducible first | exact HB.out | apply below_alloc | apply pw_below_drewN | apply below_drew1) | exact HB.out)) hb); have n1_ := Aside0.mk ((by rw [hg]; exact below_size (by repeat (first | (with_reducible first | exact HB.out | apply below_alloc | apply pw_below_drewN | apply below_drew1) | exact HB.out)) : w.heap.size ≤ g3)); have n2_ := Aside0.mk (hbox); clear HB; have HB := n0_; have GE3 := n1_; have BK3 := n2_; clear n0_ n1_ n2_; clear hb hbox hg) | ((with_reducible refine gate_dst (N := 5) rfl ?_); refine box_event ?hg (N := 5) ?hd (cs := #[.int .i64 a]) (t := 3) ?hr ?_; (case hd => rfl); (case hg => rfl); (case hr => first | (go_simp; done) | (go_simp; rfl)); intro g5 hg w5 hbox hb; have n0_ := Aside0.mk (blk_below (g := g3) (o := .cells #[.slice A0 m.length c0] 31 (0, 0)) (by (with_reducible repeat (first | refine blk_drewN ?_ _ | refine blk_drew ?_ | refine blk_alloc ?_ _)); exact BK3.out) hb); have n1_ := Aside0.mk (below_step (by repeat (first | (with_reducible first | exact HB.out | apply below_alloc | apply pw_below_drewN | apply below_drew1) | exact HB.out)) hb); have n2_ := Aside0.mk ((by rw [hg]; exact below_size (by repeat (first | (with_reducible first | exact HB.out | apply below_alloc | apply pw_below_drewN | apply below_drew1) | exact HB.out)) : w.heap.size ≤ g5)); have n3_ := Aside0.mk (hbox); have n4_ := Aside0.mk ((by rw [hg]; exact Nat.ne_of_lt (blk_lt (g := g3) (o := .cells #[.slice A0 m.length c0] 31 (0, 0)) (by (with_reducible repeat (first | refine blk_drewN ?_ _ | refine blk_drew ?_ | refine blk_alloc ?_ _)); exact BK3.out)) : g3 ≠ g5)); clear BK3 HB; have BK3 := n0_; have HB := n1_; have GE5 := n2_; have BK5 := n3_; have NB3_5 := n4_; clear n0_ n1_ n2_ n3_ n4_; clear hb hbox hg; have hq5_3 : w5.cell? ⟨g3, 0, none⟩ = some (.slice A0 m.length c0) := (blk_cell BK3.out 0).trans rfl; have hz5_3 := blk_frozen BK3.out 0; have hq5_5 : w5.cell? ⟨g5, 0, none⟩ = some (.int .i64 a) := (blk_cell BK5.out 0).trans rfl; have hz5_5 := blk_frozen BK5.out 0) | (go_at_call 35; (with_reducible refine (impl_areWatched.calls k _ _ m _ _ l false _ ?s1 ?s2 ?s3 ?s4 HA1.out).mono ?_); (case s1 => exact Kd.C_below HR0.out (by repeat (first | (with_reducible first | exact HB.out | apply below_alloc | apply pw_below_drewN | apply below_drew1) | exact HB.out))); (case s2 => exact HC0.out); (case s3 => exact Kd.C_below HR1.out (by repeat (first | (with_reducible first | exact HB.out | apply below_alloc | apply pw_below_drewN | apply below_drew1) | exact HB.out))); (case s4 => exact HC1.out); rintro e wa ⟨rfl, hb⟩; have n0_ := Aside0.mk (blk_below (g := g3) (o := .cells #[.slice A0 m.length c0] 31 (0, 0)) (by (with_reducible repeat (first | refine blk_drewN ?_ _ | refine blk_drew ?_ | refine blk_alloc ?_ _)); exact BK3.out) hb); have n1_ := Aside0.mk (blk_below (g := g5) (o := .cells #[.int .i64 a] 3 (0, 0)) (by (with_reducible repeat (first | refine blk_drewN ?_ _ | refine blk_drew ?_ | refine blk_alloc ?_ _)); exact BK5.out) hb); have n2_ := Aside0.mk (below_step (by repeat (first | (with_reducible first | exact HB.out | apply below_alloc | apply pw_below_drewN | apply below_drew1) | exact HB.out)) hb); clear BK3 BK5 HB; have BK3 := n0_; have BK5 := n1_; have HB := n2_; clear n0_ n1_ n2_ hb; have hcwa_3 : wa.cell? ⟨g3, 0, none⟩ = some (.slice A0 m.length c0) := (blk_cell BK3.out 0).trans rfl; have hdwa_3 := blk_frozen BK3.out 0; have hcwa_5 : wa.cell? ⟨g5, 0, none⟩ = some (.int .i64 a) := (blk_cell BK5.out 0).trans rfl; have hdwa_5 := blk_frozen BK5.out 0))
  go_ret2
  exact ⟨rfl, by repeat (first | (with_reducible first | exact HB.out | apply below_alloc | apply pw_below_drewN | apply below_drew1) | exact HB.out)⟩
set_option maxHeartbeats 2000000 in
set_option maxRecDepth 100000 in
theorem counts_no2 (k : Nat) (A0 : Option Addr) (c0 : Nat) (m : List (List Int)) (A1 : Option Addr) (c1 : Nat) (l : List S56) (a : Int) (w : World) (hr0 : Kd.C (Kd.slice 5 (Kd.int .u8)) w A0 m.length m) (hc0 : m.length ≤ c0) (hr1 : Kd.C k56 w A1 l.length l) (hc1 : l.length ≤ c1) (h1 : impl_areWatched.f k m l = some true) (h2 : impl_Memory_hasArray.f m a = some false) :
    Calls Try.prog 29 #[.agg #[.slice A0 m.length c0], .slice A1 l.length c1, .int .i64 a] w fun e w' => e = .returned (.tuple #[.slice none 0 0, .bool false]) ∧ Below w.heap.size w w' := by
  have hu := Try.underlying31
  have HR0 := Aside0.mk hr0
  have HC0 := Aside0.mk hc0
  have HR1 := Aside0.mk hr1
  have HC1 := Aside0.mk hc1
  clear hr0 hc0 hr1 hc1
  have HB := Aside0.mk (Below.refl w.heap.size w)
  have HA1 := Aside0.mk h1
  clear h1
  have HA2 := Aside0.mk h2
  clear h2
  go_enter Try.func29, Try.ntmps29
  go_wp2_with (first | ((with_reducible refine gate_dst (N := 3) rfl ?_); refine box_event ?hg (N := 3) ?hd (cs := #[.slice A0 m.length c0]) (t := 31) ?hr ?_; (case hd => rfl); (case hg => rfl); (case hr => first | (go_simp; done) | (go_simp; rfl)); intro g3 hg w3 hbox hb; have n0_ := Aside0.mk (below_step (by repeat (first | (with_reducible first | exact HB.out | apply below_alloc | apply pw_below_drewN | apply below_drew1) | exact HB.out)) hb); have n1_ := Aside0.mk ((by rw [hg]; exact below_size (by repeat (first | (with_reducible first | exact HB.out | apply below_alloc | apply pw_below_drewN | apply below_drew1) | exact HB.out)) : w.heap.size ≤ g3)); have n2_ := Aside0.mk (hbox); clear HB; have HB := n0_; have GE3 := n1_; have BK3 := n2_; clear n0_ n1_ n2_; clear hb hbox hg) | ((with_reducible refine gate_dst (N := 5) rfl ?_); refine box_event ?hg (N := 5) ?hd (cs := #[.int .i64 a]) (t := 3) ?hr ?_; (case hd => rfl); (case hg => rfl); (case hr => first | (go_simp; done) | (go_simp; rfl)); intro g5 hg w5 hbox hb; have n0_ := Aside0.mk (blk_below (g := g3) (o := .cells #[.slice A0 m.length c0] 31 (0, 0)) (by (with_reducible repeat (first | refine blk_drewN ?_ _ | refine blk_drew ?_ | refine blk_alloc ?_ _)); exact BK3.out) hb); have n1_ := Aside0.mk (below_step (by repeat (first | (with_reducible first | exact HB.out | apply below_alloc | apply pw_below_drewN | apply below_drew1) | exact HB.out)) hb); have n2_ := Aside0.mk ((by rw [hg]; exact below_size (by repeat (first | (with_reducible first | exact HB.out | apply below_alloc | apply pw_below_drewN | apply below_drew1) | exact HB.out)) : w.heap.size ≤ g5)); have n3_ := Aside0.mk (hbox); have n4_ := Aside0.mk ((by rw [hg]; exact Nat.ne_of_lt (blk_lt (g := g3) (o := .cells #[.slice A0 m.length c0] 31 (0, 0)) (by (with_reducible repeat (first | refine blk_drewN ?_ _ | refine blk_drew ?_ | refine blk_alloc ?_ _)); exact BK3.out)) : g3 ≠ g5)); clear BK3 HB; have BK3 := n0_; have HB := n1_; have GE5 := n2_; have BK5 := n3_; have NB3_5 := n4_; clear n0_ n1_ n2_ n3_ n4_; clear hb hbox hg; have hq5_3 : w5.cell? ⟨g3, 0, none⟩ = some (.slice A0 m.length c0) := (blk_cell BK3.out 0).trans rfl; have hz5_3 := blk_frozen BK3.out 0; have hq5_5 : w5.cell? ⟨g5, 0, none⟩ = some (.int .i64 a) := (blk_cell BK5.out 0).trans rfl; have hz5_5 := blk_frozen BK5.out 0) | (go_at_call 35; (with_reducible refine (impl_areWatched.calls k _ _ m _ _ l true _ ?s1 ?s2 ?s3 ?s4 HA1.out).mono ?_); (case s1 => exact Kd.C_below HR0.out (by repeat (first | (with_reducible first | exact HB.out | apply below_alloc | apply pw_below_drewN | apply below_drew1) | exact HB.out))); (case s2 => exact HC0.out); (case s3 => exact Kd.C_below HR1.out (by repeat (first | (with_reducible first | exact HB.out | apply below_alloc | apply pw_below_drewN | apply below_drew1) | exact HB.out))); (case s4 => exact HC1.out); rintro e wa ⟨rfl, hb⟩; have n0_ := Aside0.mk (blk_below (g := g3) (o := .cells #[.slice A0 m.length c0] 31 (0, 0)) (by (with_reducible repeat (first | refine blk_drewN ?_ _ | refine blk_drew ?_ | refine blk_alloc ?_ _)); exact BK3.out) hb); have n1_ := Aside0.mk (blk_below (g := g5) (o := .cells #[.int .i64 a] 3 (0, 0)) (by (with_reducible repeat (first | refine blk_drewN ?_ _ | refine blk_drew ?_ | refine blk_alloc ?_ _)); exact BK5.out) hb); have n2_ := Aside0.mk (below_step (by repeat (first | (with_reducible first | exact HB.out | apply below_alloc | apply pw_below_drewN | apply below_drew1) | exact HB.out)) hb); clear BK3 BK5 HB; have BK3 := n0_; have BK5 := n1_; have HB := n2_; clear n0_ n1_ n2_ hb; have hcwa_3 : wa.cell? ⟨g3, 0, none⟩ = some (.slice A0 m.length c0) := (blk_cell BK3.out 0).trans rfl; have hdwa_3 := blk_frozen BK3.out 0; have hcwa_5 : wa.cell? ⟨g5, 0, none⟩ = some (.int .i64 a) := (blk_cell BK5.out 0).trans rfl; have hdwa_5 := blk_frozen BK5.out 0) | (go_at_call 46; (with_reducible refine (impl_Memory_hasArray.calls _ _ m a false _ ?s1 ?s2 HA2.out).mono ?_); (case s1 => exact Kd.C_below HR0.out (by repeat (first | (with_reducible first | exact HB.out | apply below_alloc | apply pw_below_drewN | apply below_drew1) | exact HB.out))); (case s2 => exact HC0.out); rintro e wh ⟨rfl, hb⟩; have n0_ := Aside0.mk (blk_below (g := g3) (o := .cells #[.slice A0 m.length c0] 31 (0, 0)) (by (with_reducible repeat (first | refine blk_drewN ?_ _ | refine blk_drew ?_ | refine blk_alloc ?_ _)); exact BK3.out) hb); have n1_ := Aside0.mk (blk_below (g := g5) (o := .cells #[.int .i64 a] 3 (0, 0)) (by (with_reducible repeat (first | refine blk_drewN ?_ _ | refine blk_drew ?_ | refine blk_alloc ?_ _)); exact BK5.out) hb); have n2_ := Aside0.mk (below_step (by repeat (first | (with_reducible first | exact HB.out | apply below_alloc | apply pw_below_drewN | apply below_drew1) | exact HB.out)) hb); clear BK3 BK5 HB; have BK3 := n0_; have BK5 := n1_; have HB := n2_; clear n0_ n1_ n2_ hb))
  go_ret2
  exact ⟨rfl, by repeat (first | (with_reducible first | exact HB.out | apply below_alloc | apply pw_below_drewN | apply below_drew1) | exact HB.out)⟩
set_option maxHeartbeats 4000000 in
set_option maxRecDepth 100000 in
theorem counts_yes (k : Nat) (A0 : Option Addr) (c0 : Nat) (m : List (List Int)) (A1 : Option Addr) (c1 : Nat) (l : List S56) (a : Int) (w : World) (hr0 : Kd.C (Kd.slice 5 (Kd.int .u8)) w A0 m.length m) (hc0 : m.length ≤ c0) (hr1 : Kd.C k56 w A1 l.length l) (hc1 : l.length ≤ c1) (h1 : impl_areWatched.f k m l = some true) (h2 : impl_Memory_hasArray.f m a = some true) (ha0 : 0 ≤ a) (ha1 : a < (m.length : Int)) (hlen : l.length ≤ 1048576) (hn : (rd_L1 m a).length ≤ 1048576) :
    Calls Try.prog 29 #[.agg #[.slice A0 m.length c0], .slice A1 l.length c1, .int .i64 a] w fun e w' => ∃ v0_ : Value, e = .returned (.tuple #[v0_, .bool true]) ∧ Kd.R (Kd.int .i64) 3 w' w.heap.size (fun _ => True) v0_ (countsL m l a (rd_L1 m a).length) ∧ Below w.heap.size w w' := by
  have hu := Try.underlying31
  obtain ⟨n, hN⟩ : ∃ n, n = (rd_L1 m a).length := ⟨_, rfl⟩
  rw [← hN] at hn ⊢
  obtain ⟨ad1, A2, c2, e1, hx1, hl1, hi1⟩ := at_L1 hr0 a ha0 ha1
  cases e1
  rw [← hN] at hx1
  have HX1 := Aside0.mk hx1
  clear hN hx1 hl1 hi1
  have HR0 := Aside0.mk hr0
  have HC0 := Aside0.mk hc0
  have HR1 := Aside0.mk hr1
  have HC1 := Aside0.mk hc1
  clear hr0 hc0 hr1 hc1
  have HB := Aside0.mk (Below.refl w.heap.size w)
  have HA1 := Aside0.mk h1
  have HA2 := Aside0.mk h2
  have HP0 := Aside0.mk ha0
  have HP1 := Aside0.mk ha1
  have HL := Aside0.mk hlen
  have p0 : decide (0 ≤ a) = true := decide_eq_true ha0
  have p1 : decide (a < (m.length : Int)) = true := decide_eq_true ha1
  replace ha0 := eq_true ha0
  replace ha1 := eq_true ha1
  clear h1 h2 hlen
  have eg := enters_of Try.func48 (by kernel_rfl) rfl
  obtain ⟨y0, hy0⟩ : ∃ y_ : List Int, y_ = ([] : List Int) := ⟨_, rfl⟩
  have Ny0 := Aside0.mk hy0
  clear hy0
  go_enter Try.func29, Try.ntmps29
  go_wp2_with (first | ((with_reducible refine gate_dst (N := 3) rfl ?_); refine box_event ?hg (N := 3) ?hd (cs := #[.slice (some ad1) m.length c0]) (t := 31) ?hr ?_; (case hd => rfl); (case hg => rfl); (case hr => first | (go_simp; done) | (go_simp; rfl)); intro g3 hg w3 hbox hb; have n0_ := Aside0.mk (below_step (by repeat (first | (with_reducible first | exact HB.out | apply below_alloc | apply pw_below_drewN | apply below_drew1) | exact HB.out)) hb); have n1_ := Aside0.mk ((by rw [hg]; exact below_size (by repeat (first | (with_reducible first | exact HB.out | apply below_alloc | apply pw_below_drewN | apply below_drew1) | exact HB.out)) : w.heap.size ≤ g3)); have n2_ := Aside0.mk (hbox); clear HB; have HB := n0_; have GE3 := n1_; have BK3 := n2_; clear n0_ n1_ n2_; clear hb hbox hg) | ((with_reducible refine gate_dst (N := 5) rfl ?_); refine box_event ?hg (N := 5) ?hd (cs := #[.int .i64 a]) (t := 3) ?hr ?_; (case hd => rfl); (case hg => rfl); (case hr => first | (go_simp; done) | (go_simp; rfl)); intro g5 hg w5 hbox hb; have n0_ := Aside0.mk (blk_below (g := g3) (o := .cells #[.slice (some ad1) m.length c0] 31 (0, 0)) (by (with_reducible repeat (first | refine blk_drewN ?_ _ | refine blk_drew ?_ | refine blk_alloc ?_ _)); exact BK3.out) hb); have n1_ := Aside0.mk (below_step (by repeat (first | (with_reducible first | exact HB.out | apply below_alloc | apply pw_below_drewN | apply below_drew1) | exact HB.out)) hb); have n2_ := Aside0.mk ((by rw [hg]; exact below_size (by repeat (first | (with_reducible first | exact HB.out | apply below_alloc | apply pw_below_drewN | apply below_drew1) | exact HB.out)) : w.heap.size ≤ g5)); have n3_ := Aside0.mk (hbox); have n4_ := Aside0.mk ((by rw [hg]; exact Nat.ne_of_lt (blk_lt (g := g3) (o := .cells #[.slice (some ad1) m.length c0] 31 (0, 0)) (by (with_reducible repeat (first | refine blk_drewN ?_ _ | refine blk_drew ?_ | refine blk_alloc ?_ _)); exact BK3.out)) : g3 ≠ g5)); clear BK3 HB; have BK3 := n0_; have HB := n1_; have GE5 := n2_; have BK5 := n3_; have NB3_5 := n4_; clear n0_ n1_ n2_ n3_ n4_; clear hb hbox hg; have hq5_3 : w5.cell? ⟨g3, 0, none⟩ = some (.slice (some ad1) m.length c0) := (blk_cell BK3.out 0).trans rfl; have hz5_3 := blk_frozen BK3.out 0; have hq5_5 : w5.cell? ⟨g5, 0, none⟩ = some (.int .i64 a) := (blk_cell BK5.out 0).trans rfl; have hz5_5 := blk_frozen BK5.out 0) | (go_at_call 35; (with_reducible refine (impl_areWatched.calls k _ _ m _ _ l true _ ?s1 ?s2 ?s3 ?s4 HA1.out).mono ?_); (case s1 => exact Kd.C_below HR0.out (by repeat (first | (with_reducible first | exact HB.out | apply below_alloc | apply pw_below_drewN | apply below_drew1) | exact HB.out))); (case s2 => exact HC0.out); (case s3 => exact Kd.C_below HR1.out (by repeat (first | (with_reducible first | exact HB.out | apply below_alloc | apply pw_below_drewN | apply below_drew1) | exact HB.out))); (case s4 => exact HC1.out); rintro e wa ⟨rfl, hb⟩; have n0_ := Aside0.mk (blk_below (g := g3) (o := .cells #[.slice (some ad1) m.length c0] 31 (0, 0)) (by (with_reducible repeat (first | refine blk_drewN ?_ _ | refine blk_drew ?_ | refine blk_alloc ?_ _)); exact BK3.out) hb); have n1_ := Aside0.mk (blk_below (g := g5) (o := .cells #[.int .i64 a] 3 (0, 0)) (by (with_reducible repeat (first | refine blk_drewN ?_ _ | refine blk_drew ?_ | refine blk_alloc ?_ _)); exact BK5.out) hb); have n2_ := Aside0.mk (below_step (by repeat (first | (with_reducible first | exact HB.out | apply below_alloc | apply pw_below_drewN | apply below_drew1) | exact HB.out)) hb); clear BK3 BK5 HB; have BK3 := n0_; have BK5 := n1_; have HB := n2_; clear n0_ n1_ n2_ hb; have hcwa_3 : wa.cell? ⟨g3, 0, none⟩ = some (.slice (some ad1) m.length c0) := (blk_cell BK3.out 0).trans rfl; have hdwa_3 := blk_frozen BK3.out 0; have hcwa_5 : wa.cell? ⟨g5, 0, none⟩ = some (.int .i64 a) := (blk_cell BK5.out 0).trans rfl; have hdwa_5 := blk_frozen BK5.out 0) | (go_at_call 46; (with_reducible refine (impl_Memory_hasArray.calls _ _ m a true _ ?s1 ?s2 HA2.out).mono ?_); (case s1 => exact Kd.C_below HR0.out (by repeat (first | (with_reducible first | exact HB.out | apply below_alloc | apply pw_below_drewN | apply below_drew1) | exact HB.out))); (case s2 => exact HC0.out); rintro e wh ⟨rfl, hb⟩; have n0_ := Aside0.mk (blk_below (g := g3) (o := .cells #[.slice (some ad1) m.length c0] 31 (0, 0)) (by (with_reducible repeat (first | refine blk_drewN ?_ _ | refine blk_drew ?_ | refine blk_alloc ?_ _)); exact BK3.out) hb); have n1_ := Aside0.mk (blk_below (g := g5) (o := .cells #[.int .i64 a] 3 (0, 0)) (by (with_reducible repeat (first | refine blk_drewN ?_ _ | refine blk_drew ?_ | refine blk_alloc ?_ _)); exact BK5.out) hb); have n2_ := Aside0.mk (below_step (by repeat (first | (with_reducible first | exact HB.out | apply below_alloc | apply pw_below_drewN | apply below_drew1) | exact HB.out)) hb); clear BK3 BK5 HB; have BK3 := n0_; have BK5 := n1_; have HB := n2_; clear n0_ n1_ n2_ hb; have hcwh_3 : wh.cell? ⟨g3, 0, none⟩ = some (.slice (some ad1) m.length c0) := (blk_cell BK3.out 0).trans rfl; have hdwh_3 := blk_frozen BK3.out 0; have hcwh_5 : wh.cell? ⟨g5, 0, none⟩ = some (.int .i64 a) := (blk_cell BK5.out 0).trans rfl; have hdwh_5 := blk_frozen BK5.out 0) | ((with_reducible refine gate_dst (N := 20) rfl ?_); refine Kd.R_lit (Kd.int .i64) _ 3 ?hg (N := 20) ?hd (xs := ([] : List Int)) (inner := []) (ok := fun _ => True) (okp := fun _ => True) ?hr ?hp (fun _ hk => hk) trivial (Below.refl _ _) (Nat.le_refl _) (by simp) ?_; (case hd => rfl); (case hg => rfl); (case hr => first | (go_simp; done) | (go_simp; rfl)); (case hp => exact (Reps.none _ _)); intro v20 w20 ho hb hg_ hnew_; clear hg_ hnew_; (first | rw [← Ny0.out] at ho | (simp only [Int.reduceToNat] at ho; rw [← Ny0.out] at ho)); have n0_ := Aside0.mk (Kd.R_mono (Kd.R_lower (Kd.R_bound ho) (below_size (by repeat (first | (with_reducible first | exact HB.out | apply below_alloc | apply pw_below_drewN | apply below_drew1) | exact HB.out)))) (ok' := fun k_ => k_ ≠ g5) (fun k_ hk_ e_ => by have h1_ := blk_lt BK5.out; have h2_ : wh.heap.size ≤ k_ := hk_.2.1; omega)); have n1_ := Aside0.mk (blk_below (g := g3) (o := .cells #[.slice (some ad1) m.length c0] 31 (0, 0)) (by (with_reducible repeat (first | refine blk_drewN ?_ _ | refine blk_drew ?_ | refine blk_alloc ?_ _)); exact BK3.out) hb); have n2_ := Aside0.mk (blk_below (g := g5) (o := .cells #[.int .i64 a] 3 (0, 0)) (by (with_reducible repeat (first | refine blk_drewN ?_ _ | refine blk_drew ?_ | refine blk_alloc ?_ _)); exact BK5.out) hb); have n3_ := Aside0.mk (below_step (by repeat (first | (with_reducible first | exact HB.out | apply below_alloc | apply pw_below_drewN | apply below_drew1) | exact HB.out)) hb); clear HB BK3 BK5; have HO := n0_; have BK3 := n1_; have BK5 := n2_; have HB := n3_; clear n0_ n1_ n2_ n3_; clear hb ho; have hc20_3 : w20.cell? ⟨g3, 0, none⟩ = some (.slice (some ad1) m.length c0) := (blk_cell BK3.out 0).trans rfl; have hd20_3 := blk_frozen BK3.out 0; have hc20_5 : w20.cell? ⟨g5, 0, none⟩ = some (.int .i64 a) := (blk_cell BK5.out 0).trans rfl; have hd20_5 := blk_frozen BK5.out 0; have hx1 := pw_cell_below HB.out HX1.out))
  go_loopg [8, 27] n (fun gg s8 s27 wr => ∃ kk : Nat, kk ≤ n ∧ n - kk ≤ gg ∧ s27 = .int .i64 kk ∧ Aside0 (Below w.heap.size w wr) ∧ Aside0 (wr.heap[g3]? = some (.cells #[.slice (some ad1) m.length c0] 31 (0, 0))) ∧ Aside0 (wr.heap[g5]? = some (.cells #[.int .i64 a] 3 (0, 0))) ∧ Aside0 (Kd.R (Kd.int .i64) 3 wr w.heap.size (fun k_ => k_ ≠ g5) s8 (countsL m l a kk)))
  case atStart => exact ⟨0, Nat.zero_le _, by omega, rfl, ⟨by repeat (first | (with_reducible first | exact HB.out | apply below_alloc | apply pw_below_drewN | apply below_drew1) | exact HB.out)⟩, ⟨by (with_reducible repeat (first | refine blk_drewN ?_ _ | refine blk_drew ?_ | refine blk_alloc ?_ _)); exact BK3.out⟩, ⟨by (with_reducible repeat (first | refine blk_drewN ?_ _ | refine blk_drew ?_ | refine blk_alloc ?_ _)); exact BK5.out⟩, ⟨by rw [show countsL m l a 0 = y0 from (by rw [Ny0.out]; rfl)]; (with_reducible repeat (first | apply Kd.R_alloc | apply Kd.R_drewN | apply Kd.R_drew)); exact HO.out⟩⟩
  case round =>
    clear HB BK3 BK5 HO Ny0
    obtain ⟨kk, hkk, hg, rfl, HB, BK3, BK5, HO⟩ := hrel
    by_cases hlt : kk < n
    · have hltz : (kk : Int) < (n : Int) := by omega
      go_wp2_with (first | ((with_reducible refine gate_dst (N := 9) rfl ?_); refine box_event ?hg (N := 9) ?hd (cs := #[.int .i64 0]) (t := 3) ?hr ?_; (case hd => rfl); (case hg => rfl); (case hr => first | (go_simp; done) | (go_simp; rfl)); intro g9 hg w9 hbox hb; have n0_ := Aside0.mk (blk_below (g := g3) (o := .cells #[.slice (some ad1) m.length c0] 31 (0, 0)) (by (with_reducible repeat (first | refine blk_drewN ?_ _ | refine blk_drew ?_ | refine blk_alloc ?_ _)); exact BK3.out) hb); have n1_ := Aside0.mk (blk_below (g := g5) (o := .cells #[.int .i64 a] 3 (0, 0)) (by (with_reducible repeat (first | refine blk_drewN ?_ _ | refine blk_drew ?_ | refine blk_alloc ?_ _)); exact BK5.out) hb); have n2_ := Aside0.mk (by rw [hg]; exact Nat.ne_of_lt (blk_lt (g := g3) (o := .cells #[.slice (some ad1) m.length c0] 31 (0, 0)) (by (with_reducible repeat (first | refine blk_drewN ?_ _ | refine blk_drew ?_ | refine blk_alloc ?_ _)); exact BK3.out)) : g3 ≠ g9); have n3_ := Aside0.mk (by rw [hg]; exact Nat.ne_of_lt (blk_lt (g := g5) (o := .cells #[.int .i64 a] 3 (0, 0)) (by (with_reducible repeat (first | refine blk_drewN ?_ _ | refine blk_drew ?_ | refine blk_alloc ?_ _)); exact BK5.out)) : g5 ≠ g9); have n4_ := Aside0.mk (Kd.R_below (Kd.R_mono (Kd.R_bound (by (with_reducible repeat (first | apply Kd.R_alloc | apply Kd.R_drewN | apply Kd.R_drew)); exact HO.out)) (ok' := fun k_ => k_ ≠ g5 ∧ k_ ≠ g9) (fun k_ hk_ => ⟨hk_.1, fun e_ => by have := hk_.2.2.1; rw [hg] at e_; omega⟩)) hb); have n5_ := Aside0.mk (by rw [hg]; exact below_size (by repeat (first | (with_reducible first | exact HB.out | apply below_alloc | apply pw_below_drewN | apply below_drew1) | exact HB.out)) : w.heap.size ≤ g9); have n6_ := Aside0.mk (below_step (by repeat (first | (with_reducible first | exact HB.out | apply below_alloc | apply pw_below_drewN | apply below_drew1) | exact HB.out)) hb); have n7_ := Aside0.mk hbox; clear BK3 BK5 HO HB; have BK3 := n0_; have BK5 := n1_; have NB3_9 := n2_; have NB5_9 := n3_; have HO := n4_; have GE9 := n5_; have HB := n6_; have BK9 := n7_; clear n0_ n1_ n2_ n3_ n4_ n5_ n6_ n7_ hb hbox hg; have hq9 : w9.cell? ⟨g9, 0, none⟩ = some (.int .i64 0) := (blk_cell BK9.out 0).trans rfl; have hz9 := blk_frozen BK9.out 0) | (go_at_call 47; (refine (numbersOf.calls 48 #[.pointer (some ⟨g5, 0, none⟩), .pointer (some ⟨g9, 0, none⟩)] (fun _ x => seesB x a (kk : Int)) _ _ l _ eg ?s1 ?s2 HL.out).mono ?_); (case s1 => exact (fun W i x _ hW => noticed2.calls g5 g9 a (kk : Int) i x W (blk_below (by refine blk_far ?_ NB5_9.out _; exact BK5.out) hW) (blk_below (by refine blk_put (cs := #[.int .i64 0]) BK9.out 0 _ rfl) hW))); (case s2 => exact Kd.C_below HR1.out (by repeat (first | (with_reducible first | exact HB.out | apply below_alloc | apply pw_below_drewN | apply below_drew1 | refine below_set ?_ GE9.out) | exact HB.out))); rintro e wn ⟨vn, rfl, hon, hb⟩; have n0_ := Aside0.mk (blk_below (g := g3) (o := .cells #[.slice (some ad1) m.length c0] 31 (0, 0)) (by refine blk_far ?_ NB3_9.out _; exact BK3.out) hb); have n1_ := Aside0.mk (blk_below (g := g5) (o := .cells #[.int .i64 a] 3 (0, 0)) (by refine blk_far ?_ NB5_9.out _; exact BK5.out) hb); have n2_ := Aside0.mk (Kd.R_below (Kd.R_far (p := ⟨g9, 0, none⟩) HO.out (fun k_ hk_ => hk_.2) _) hb); have n3_ := Aside0.mk (below_step (by repeat (first | (with_reducible first | exact HB.out | apply below_alloc | apply pw_below_drewN | apply below_drew1 | refine below_set ?_ GE9.out) | exact HB.out)) hb); have n4_ := Aside0.mk (Nat.lt_of_lt_of_le (by simpa using blk_lt BK9.out) hb.size : g9 < wn.heap.size); clear BK3 BK5 HO HB; have BK3 := n0_; have BK5 := n1_; have HO := n2_; have HB := n3_; have LT9 := n4_; clear n0_ n1_ n2_ n3_ n4_ hb; obtain ⟨An, cn, en⟩ := Kd.R_slice hon; subst en; clear hon) | ((with_reducible refine gate_builtin (b := .append) (xs := #[.tmp 30, .tmp 35]) rfl ?_); at_builtin; refine Kd.R_append (Kd.int .i64) (w0 := w) w.heap.size rfl (.tmp 30) (.tmp 35) 51 3 (.int .i64 0) 8 rfl Try.underlying51 info3 rfl (by decide) (by omega) u8 (countsL m l a kk) ((numsF (fun _ x => seesB x a (kk : Int)) l 0).length : Int) [.int .i64 ((numsF (fun _ x => seesB x a (kk : Int)) l 0).length : Int)] (fun k_ => k_ ≠ g5) (fun _ => False) rfl rfl ?aP (fun _ hk => hk.elim) ?aF ?aO ?aB ?aS ?aL ?_; (case aP => exact rfl); (case aB => exact (by repeat (first | (with_reducible first | exact HB.out | apply below_alloc | apply pw_below_drewN | apply below_drew1) | exact HB.out))); (case aF => exact (fun k_ hk_ e_ => by have := blk_lt BK5.out; omega)); (case aO => exact Kd.R_mono HO.out (fun k_ hk_ => hk_.1)); (case aS => exact (below_size (by repeat (first | (with_reducible first | exact HB.out | apply below_alloc | apply pw_below_drewN | apply below_drew1) | exact HB.out)))); (case aL => have := countsL_len m l a kk; omega); intro v36 w36 ho hb hg hat; rw [← countsL_succ] at ho; have n0_ := Aside0.mk (blk_grown BK3.out hg (fun e_ => Kd.R_ne HO.out BK3.out (by decide) e_)); have n1_ := Aside0.mk (blk_grown BK5.out hg (fun e_ => (HO.out.1 g5 e_.symm).1 rfl)); have n2_ := Aside0.mk hb; have n3_ := Aside0.mk ho; clear BK3 BK5 HB HO; have BK3 := n0_; have BK5 := n1_; have HB := n2_; have HO := n3_; clear n0_ n1_ n2_ n3_ ho hb hg hat))
      go_roundg (n - (kk + 1))
      case measure => omega
      case rel => exact ⟨kk + 1, by omega, by omega, by go_num, ⟨by repeat (first | (with_reducible first | exact HB.out | apply below_alloc | apply pw_below_drewN | apply below_drew1) | exact HB.out)⟩, ⟨by (with_reducible repeat (first | refine blk_drewN ?_ _ | refine blk_drew ?_ | refine blk_alloc ?_ _)); exact BK3.out⟩, ⟨by (with_reducible repeat (first | refine blk_drewN ?_ _ | refine blk_drew ?_ | refine blk_alloc ?_ _)); exact BK5.out⟩, ⟨by (with_reducible repeat (first | apply Kd.R_alloc | apply Kd.R_drewN | apply Kd.R_drew)); exact HO.out⟩⟩
    · have hltz : ¬ (kk : Int) < (n : Int) := by omega
      obtain rfl : kk = n := by omega
      go_wp2
      go_ret2
      exact ⟨_, rfl, Kd.R_mono (by (with_reducible repeat (first | apply Kd.R_alloc | apply Kd.R_drewN | apply Kd.R_drew)); exact HO.out) (fun _ _ => trivial), by repeat (first | (with_reducible first | exact HB.out | apply below_alloc | apply pw_below_drewN | apply below_drew1) | exact HB.out)⟩
def impl_NoticedCounts.f (k : Nat) (m : List (List Int)) (l : List S56) (a : Int) : Option (List Int × Bool) :=
  (impl_areWatched.f k m l).bind fun t => if t = true then ((impl_Memory_hasArray.f m a).bind fun h => if h = true then (if 0 ≤ a then (if a < (m.length : Int) then (if l.length ≤ 1048576 then (if (rd_L1 m a).length ≤ 1048576 then some (countsL m l a (rd_L1 m a).length, true) else none) else none) else none) else none) else some ([], false)) else some ([], false)
theorem impl_NoticedCounts.calls (k : Nat) (A0 : Option Addr) (c0 : Nat) (m : List (List Int)) (A1 : Option Addr) (c1 : Nat) (l : List S56) (a : Int) (r1 : List Int) (r2 : Bool) (w : World) (hr0 : Kd.C (Kd.slice 5 (Kd.int .u8)) w A0 m.length m) (hc0 : m.length ≤ c0) (hr1 : Kd.C k56 w A1 l.length l) (hc1 : l.length ≤ c1) (h : impl_NoticedCounts.f k m l a = some (r1, r2)) :
    Calls Try.prog 29 #[.agg #[.slice A0 m.length c0], .slice A1 l.length c1, .int .i64 a] w fun e w' => ∃ v0_ : Value, e = .returned (.tuple #[v0_, .bool r2]) ∧ Kd.R (Kd.int .i64) 3 w' w.heap.size (fun _ => True) v0_ r1 ∧ Below w.heap.size w w' := by
  unfold impl_NoticedCounts.f at h
  obtain ⟨t, h1, h⟩ := Option.bind_eq_some_iff.mp h
  cases t with
  | false =>
    rw [if_neg (by decide)] at h
    obtain ⟨rfl, rfl⟩ := Prod.mk.inj (Option.some.inj h)
    exact (counts_no1 k A0 c0 m A1 c1 l a w hr0 hc0 hr1 hc1 h1).mono fun e w' ⟨he, hb⟩ => ⟨_, he, Kd.R_nil _ _ _ _ _, hb⟩
  | true =>
    rw [if_pos rfl] at h
    obtain ⟨t, h2, h⟩ := Option.bind_eq_some_iff.mp h
    cases t with
    | false =>
      rw [if_neg (by decide)] at h
      obtain ⟨rfl, rfl⟩ := Prod.mk.inj (Option.some.inj h)
      exact (counts_no2 k A0 c0 m A1 c1 l a w hr0 hc0 hr1 hc1 h1 h2).mono fun e w' ⟨he, hb⟩ => ⟨_, he, Kd.R_nil _ _ _ _ _, hb⟩
    | true =>
      rw [if_pos rfl] at h
      by_cases h3 : 0 ≤ a
      · rw [if_pos h3] at h
        by_cases h4 : a < (m.length : Int)
        · rw [if_pos h4] at h
          by_cases h5 : l.length ≤ 1048576
          · rw [if_pos h5] at h
            by_cases h6 : (rd_L1 m a).length ≤ 1048576
            · rw [if_pos h6] at h
              obtain ⟨rfl, rfl⟩ := Prod.mk.inj (Option.some.inj h)
              exact counts_yes k A0 c0 m A1 c1 l a w hr0 hc0 hr1 hc1 h1 h2 h3 h4 h5 h6
            · rw [if_neg h6] at h; cases h
          · rw [if_neg h5] at h; cases h
        · rw [if_neg h4] at h; cases h
      · rw [if_neg h3] at h; cases h
end Go.Proofs.Ytiiocpeeobjlgaa.P
end
section
namespace Go.Proofs.Ytiiocpeeobjlgaa.P
open Go.RowKit Go.Proofs.YtiiocpeeobjlgaaW.PrintWords Go.Proofs.YtiiocpeeobjlgaaW.PrintLast Go.Proofs.YtiiocpeeobjlgaaW.PrintMore
set_option linter.unusedVariables false
set_option linter.unusedSimpArgs false
def covStep (c : List Int) (p : Nat) (o : List (Int × Int)) : List (Int × Int) :=
  if c.getD p 0 = 0 then o else if 0 < p ∧ 0 < c.getD (p - 1) 0 then o.set (o.length - 1) ((o.getD (o.length - 1) (0, 0)).1, (p : Int)) else o ++ [((p : Int), (p : Int))]
def covN (c : List Int) : Nat → List (Int × Int)
  | 0 => []
  | n + 1 => covStep c n (covN c n)
theorem covStep_len (c : List Int) (p : Nat) (o : List (Int × Int)) : o.length ≤ (covStep c p o).length ∧ (covStep c p o).length ≤ o.length + 1 := by
  unfold covStep
  split
  · omega
  · split
    · rw [List.length_set]; omega
    · rw [List.length_append, List.length_singleton]; omega
theorem covN_len (c : List Int) : ∀ n, (covN c n).length ≤ n
  | 0 => by simp [covN]
  | n + 1 => by have := covN_len c n; have := (covStep_len c n (covN c n)).2; rw [covN]; omega
theorem covN_ne (c : List Int) : ∀ n, c.getD n 0 ≠ 0 → 0 < (covN c (n + 1)).length
  | n, h => by
    rw [covN, covStep, if_neg h]
    by_cases h1 : 0 < n ∧ 0 < c.getD (n - 1) 0
    · rw [if_pos h1, List.length_set]
      obtain ⟨m, rfl⟩ : ∃ m, n = m + 1 := ⟨n - 1, by omega⟩
      exact covN_ne c m (by have := h1.2; simp only [Nat.add_sub_cancel] at this; omega)
    · rw [if_neg h1, List.length_append, List.length_singleton]; omega
theorem covN_zero {c : List Int} {n : Nat} (h : c.getD n 0 = 0) : covN c (n + 1) = covN c n := by rw [covN, covStep, if_pos h]
theorem covN_set {c : List Int} {n : Nat} (h : c.getD n 0 ≠ 0) (h1 : 0 < n) (h2 : 0 < c.getD (n - 1) 0) : covN c (n + 1) = (covN c n).set ((covN c n).length - 1) ((rd_A2 (covN c n) (((covN c n).length : Int) - 1)).1, (n : Int)) := by
  rw [covN, covStep, if_neg h, if_pos ⟨h1, h2⟩, rd_A2]
  congr 4
  omega
theorem covN_app {c : List Int} {n : Nat} (h : c.getD n 0 ≠ 0) (h1 : ¬ (0 < n ∧ 0 < c.getD (n - 1) 0)) : covN c (n + 1) = covN c n ++ [((n : Int), (n : Int))] := by
  rw [covN, covStep, if_neg h, if_neg h1]
set_option maxHeartbeats 2000000 in
set_option maxRecDepth 100000 in
theorem cover_no (k : Nat) (A0 : Option Addr) (c0 : Nat) (m : List (List Int)) (A1 : Option Addr) (c1 : Nat) (l : List S56) (a : Int) (g : List Int) (w : World) (hr0 : Kd.C (Kd.slice 5 (Kd.int .u8)) w A0 m.length m) (hc0 : m.length ≤ c0) (hr1 : Kd.C k56 w A1 l.length l) (hc1 : l.length ≤ c1) (h1 : impl_NoticedCounts.f k m l a = some (g, false)) :
    Calls Try.prog 10 #[.agg #[.slice A0 m.length c0], .slice A1 l.length c1, .int .i64 a] w fun e w' => e = .returned (.tuple #[.slice none 0 0, .bool false]) ∧ Below w.heap.size w w' := by
  have hu := Try.underlying31
  have HR0 := Aside0.mk hr0
  have HC0 := Aside0.mk hc0
  have HR1 := Aside0.mk hr1
  have HC1 := Aside0.mk hc1
  have HA1 := Aside0.mk h1
  clear hr0 hc0 hr1 hc1 h1
  have HB := Aside0.mk (Below.refl w.heap.size w)
  go_enter Try.func10, Try.ntmps10
  go_wp2_with (first | ((with_reducible refine gate_dst (N := 3) rfl ?_); refine box_event ?hg (N := 3) ?hd (cs := #[.slice A0 m.length c0]) (t := 31) ?hr ?_; (case hd => rfl); (case hg => rfl); (case hr => first | (go_simp; done) | (go_simp; rfl)); intro g3 hg w3 hbox hb; have n0_ := Aside0.mk (below_step HB.out hb); have n1_ := Aside0.mk hbox; clear HB; have HB := n0_; have BK3 := n1_; clear n0_ n1_ hb hbox hg; have hc3 : w3.cell? ⟨g3, 0, none⟩ = some (.slice A0 m.length c0) := (blk_cell BK3.out 0).trans rfl; have hf3 := blk_frozen BK3.out 0) | (go_at_call 29; (with_reducible refine (impl_NoticedCounts.calls k _ _ m _ _ l a g false _ ?s1 ?s2 ?s3 ?s4 HA1.out).mono ?_); (case s1 => exact Kd.C_below HR0.out (by repeat (first | (with_reducible first | exact HB.out | apply below_alloc | apply pw_below_drewN | apply below_drew1) | exact HB.out))); (case s2 => exact HC0.out); (case s3 => exact Kd.C_below HR1.out (by repeat (first | (with_reducible first | exact HB.out | apply below_alloc | apply pw_below_drewN | apply below_drew1) | exact HB.out))); (case s4 => exact HC1.out); rintro e wc ⟨vc, rfl, hoc, hb⟩; have n0_ := Aside0.mk (below_step (by repeat (first | (with_reducible first | exact HB.out | apply below_alloc | apply pw_below_drewN | apply below_drew1) | exact HB.out)) hb); clear HB; have HB := n0_; clear n0_ hb hoc))
  go_ret2
  exact ⟨rfl, by repeat (first | (with_reducible first | exact HB.out | apply below_alloc | apply pw_below_drewN | apply below_drew1) | exact HB.out)⟩
end Go.Proofs.Ytiiocpeeobjlgaa.P
end
section
namespace Go.Proofs.Ytiiocpeeobjlgaa.P
open Go.RowKit Go.Proofs.YtiiocpeeobjlgaaW.PrintWords Go.Proofs.YtiiocpeeobjlgaaW.PrintLast Go.Proofs.YtiiocpeeobjlgaaW.PrintMore
theorem sz_alloc {n : Nat} {w : World} (h : n ≤ w.heap.size) (o : Obj) : n ≤ (w.alloc o).heap.size := Nat.le_trans h (Below.refl w.heap.size w |> fun r => (below_alloc r o).size)
theorem sz_drewN {n : Nat} {w : World} (h : n ≤ w.heap.size) (m : Nat) : n ≤ (w.drewN m).heap.size := h
theorem sz_drew {n : Nat} {w : World} (h : n ≤ w.heap.size) : n ≤ w.drew.heap.size := h
theorem sz_set {n : Nat} {w : World} (h : n ≤ w.heap.size) {p : Addr} {v : Value} : n ≤ (w.setCell p v).heap.size := Nat.le_trans h (Nat.le_of_eq (by simp))
end Go.Proofs.Ytiiocpeeobjlgaa.P
end
section
namespace Go.Proofs.Ytiiocpeeobjlgaa.P
open Go.RowKit Go.Proofs.YtiiocpeeobjlgaaW.PrintWords Go.Proofs.YtiiocpeeobjlgaaW.PrintLast Go.Proofs.YtiiocpeeobjlgaaW.PrintMore
set_option linter.unusedVariables false
set_option linter.unusedSimpArgs false
set_option maxHeartbeats 8000000 in
set_option maxRecDepth 100000 in
theorem cover_yes (k : Nat) (A0 : Option Addr) (c0 : Nat) (m : List (List Int)) (A1 : Option Addr) (c1 : Nat) (l : List S56) (a : Int) (g : List Int) (w : World) (hr0 : Kd.C (Kd.slice 5 (Kd.int .u8)) w A0 m.length m) (hc0 : m.length ≤ c0) (hr1 : Kd.C k56 w A1 l.length l) (hc1 : l.length ≤ c1) (h1 : impl_NoticedCounts.f k m l a = some (g, true)) (hg1 : g.length ≤ 1048576) :
    Calls Try.prog 10 #[.agg #[.slice A0 m.length c0], .slice A1 l.length c1, .int .i64 a] w fun e w' => ∃ v0_ : Value, e = .returned (.tuple #[v0_, .bool true]) ∧ Kd.R kA2 53 w' w.heap.size (fun _ => True) v0_ (covN g g.length) ∧ Below w.heap.size w w' := by
  have hu := Try.underlying31
  have hu2 := Try.underlying53
  have HR0 := Aside0.mk hr0
  have HC0 := Aside0.mk hc0
  have HR1 := Aside0.mk hr1
  have HC1 := Aside0.mk hc1
  have HA1 := Aside0.mk h1
  have HM := Aside0.mk hg1
  clear hr0 hc0 hr1 hc1 h1 hg1
  have HB := Aside0.mk (Below.refl w.heap.size w)
  obtain ⟨n1, hn1⟩ : ∃ n1, n1 = 0 := ⟨_, rfl⟩
  have HN1 := Aside0.mk hn1
  clear hn1
  go_enter Try.func10, Try.ntmps10
  go_wp2_with (first | ((with_reducible refine gate_dst (N := 3) rfl ?_); refine box_event ?hg (N := 3) ?hd (cs := #[.slice A0 m.length c0]) (t := 31) ?hr ?_; (case hd => rfl); (case hg => rfl); (case hr => first | (go_simp; done) | (go_simp; rfl)); intro g3 hg w3 hbox hb; have n0_ := Aside0.mk (below_step HB.out hb); have n1_ := Aside0.mk hbox; clear HB; have HB := n0_; have BK3 := n1_; clear n0_ n1_ hb hbox hg; have hc3 : w3.cell? ⟨g3, 0, none⟩ = some (.slice A0 m.length c0) := (blk_cell BK3.out 0).trans rfl; have hf3 := blk_frozen BK3.out 0) | (go_at_call 29; (with_reducible refine (impl_NoticedCounts.calls k _ _ m _ _ l a g true _ ?s1 ?s2 ?s3 ?s4 HA1.out).mono ?_); (case s1 => exact Kd.C_below HR0.out (by repeat (first | (with_reducible first | exact HB.out | apply below_alloc | apply pw_below_drewN | apply below_drew1) | exact HB.out))); (case s2 => exact HC0.out); (case s3 => exact Kd.C_below HR1.out (by repeat (first | (with_reducible first | exact HB.out | apply below_alloc | apply pw_below_drewN | apply below_drew1) | exact HB.out))); (case s4 => exact HC1.out); rintro e wc ⟨vc, rfl, hoc, hb⟩; obtain ⟨n2, hn2⟩ : ∃ n2, n2 = wc.heap.size := ⟨_, rfl⟩; have n0_ := Aside0.mk (below_step (by repeat (first | (with_reducible first | exact HB.out | apply below_alloc | apply pw_below_drewN | apply below_drew1) | exact HB.out)) hb); have n1_ := Aside0.mk (show Kd.R (Kd.int .i64) 3 wc w.heap.size (fun k => n1 ≤ k ∧ k < n2) vc g from Kd.R_mono (Kd.R_lower (Kd.R_bound hoc) (below_size (by repeat (first | (with_reducible first | exact HB.out | apply below_alloc | apply pw_below_drewN | apply below_drew1) | exact HB.out)))) (fun k hk => ⟨by have := HN1.out; omega, by rw [hn2]; exact hk.2.2.1⟩)); have n2_ := Aside0.mk (Nat.le_of_eq hn2); clear HB; have HB := n0_; have HG := n1_; have HZ := n2_; clear n0_ n1_ n2_ hb hoc hn2; obtain ⟨Ac, cc, ec⟩ := Kd.R_slice HG.out; subst ec) | ((with_reducible refine gate_dst (N := 22) rfl ?_); refine Kd.R_lit kA2 _ 53 ?hg (N := 22) ?hd (xs := ([] : List (Int × Int))) (inner := []) (ok := fun _ => True) (okp := fun _ => True) ?hr ?hp (fun _ hk => hk) trivial (Below.refl _ _) (Nat.le_refl _) (by simp) ?_; (case hd => rfl); (case hg => rfl); (case hr => first | (go_simp; done) | (go_simp; rfl)); (case hp => exact (Reps.none _ _)); intro v22 w22 ho hb hg_ hnew_; clear hg_ hnew_; have n0_ := Aside0.mk (show Kd.R kA2 53 w22 w.heap.size (fun k_ => ¬ (n1 ≤ k_ ∧ k_ < n2)) v22 (covN g 0) from Kd.R_mono (Kd.R_lower (Kd.R_bound ho) (below_size (by repeat (first | (with_reducible first | exact HB.out | apply below_alloc | apply pw_below_drewN | apply below_drew1) | exact HB.out)))) (fun k_ hk_ h_ => absurd (Nat.lt_of_lt_of_le h_.2 (Nat.le_trans HZ.out hk_.2.1)) (Nat.lt_irrefl _))); have n1_ := Aside0.mk (below_step (by repeat (first | (with_reducible first | exact HB.out | apply below_alloc | apply pw_below_drewN | apply below_drew1) | exact HB.out)) hb); have n2_ := Aside0.mk (Kd.R_below HG.out hb); have n3_ := Aside0.mk (Nat.le_trans HZ.out hb.size); clear HB HG HZ; have HO := n0_; have HB := n1_; have HG := n2_; have HZ := n3_; clear n0_ n1_ n2_ n3_ hb ho))
  have hn_ := HM.out
  go_loopg [10, 25] g.length (fun kq s10 s25 wr => ∃ kk : Nat, kk ≤ g.length ∧ g.length - kk ≤ kq ∧ s25 = .int .i64 (kk : Int) ∧ Aside0 (Kd.R kA2 53 wr w.heap.size (fun k_ => ¬ (n1 ≤ k_ ∧ k_ < n2)) s10 (covN g kk)) ∧ Aside0 (Kd.R (Kd.int .i64) 3 wr w.heap.size (fun k_ => n1 ≤ k_ ∧ k_ < n2) (.slice Ac g.length cc) g) ∧ Aside0 (Below w.heap.size w wr) ∧ Aside0 (n2 ≤ wr.heap.size))
  case atStart => exact ⟨0, by omega, by omega, rfl, ⟨by (with_reducible repeat (first | apply Kd.R_alloc | apply Kd.R_drewN | apply Kd.R_drew)); exact HO.out⟩, ⟨by (with_reducible repeat (first | apply Kd.R_alloc | apply Kd.R_drewN | apply Kd.R_drew)); exact HG.out⟩, ⟨by repeat (first | (with_reducible first | exact HB.out | apply below_alloc | apply pw_below_drewN | apply below_drew1) | exact HB.out)⟩, ⟨by repeat (first | exact HZ.out | (with_reducible first | apply sz_alloc | apply sz_drewN | apply sz_drew | apply sz_set))⟩⟩
  case round =>
    clear HO HG HB HZ
    obtain ⟨kk, hkk, hkq, rfl, HO, HG, HB, HZ⟩ := hrel
    have HLg := Aside0.mk (covN_len g kk)
    by_cases hlt : kk < g.length
    · have hiz : (kk : Int) < (g.length : Int) := by omega
      have h0z : 0 ≤ (kk : Int) := by omega
      have c1b := decide_eq_true hiz
      have c2b := decide_eq_true h0z
      obtain ⟨adc, eadc, hx0⟩ := Kd.at_int (Kd.R_reads' HG.out).2.2 (kk : Int) h0z (by omega)
      cases eadc
      simp only [Int.toNat_natCast] at hx0
      have erd : rd g (kk : Int) = g.getD kk 0 := rfl
      rw [erd] at hx0
      clear erd
      obtain ⟨y, hy⟩ : ∃ y, y = g.getD kk 0 := ⟨_, rfl⟩
      rw [← hy] at hx0
      have HY := Aside0.mk hy
      clear hy
      by_cases hz : y = 0
      · have c3b : (y == 0) = true := beq_iff_eq.mpr hz
        have c3c : (y != 0) = false := bne_eq_false_iff_eq.mpr hz
        have E1 := Aside0.mk (covN_zero (c := g) (n := kk) (by rw [← HY.out]; exact hz))
        subst hz
        replace hiz := eq_true hiz
        replace h0z := eq_true h0z
        go_wp2
        go_roundg (g.length - (kk + 1))
        case measure => omega
        case rel => exact ⟨kk + 1, by omega, by omega, by go_num, ⟨by rw [E1.out]; (with_reducible repeat (first | apply Kd.R_alloc | apply Kd.R_drewN | apply Kd.R_drew)); exact HO.out⟩, ⟨by (with_reducible repeat (first | apply Kd.R_alloc | apply Kd.R_drewN | apply Kd.R_drew)); exact HG.out⟩, ⟨by repeat (first | (with_reducible first | exact HB.out | apply below_alloc | apply pw_below_drewN | apply below_drew1) | exact HB.out)⟩, ⟨by repeat (first | exact HZ.out | (with_reducible first | apply sz_alloc | apply sz_drewN | apply sz_drew | apply sz_set))⟩⟩
      · have c3b : (y == 0) = false := beq_eq_false_iff_ne.mpr hz
        have c3c : (y != 0) = true := bne_iff_ne.mpr hz
        have HYZ := Aside0.mk (show g.getD kk 0 ≠ 0 by rw [← HY.out]; exact hz)
        by_cases hp : 0 < kk
        · have c4b : decide ((kk : Int) > 0) = true := decide_eq_true (by omega)
          have c4c : decide (0 < (kk : Int)) = true := decide_eq_true (by omega)
          have c4d : decide (0 ≤ (kk : Int) - 1) = true := decide_eq_true (by omega)
          have c4e : decide ((kk : Int) - 1 < (g.length : Int)) = true := decide_eq_true (by omega)
          have e_1 : ((kk : Int) - 1).toNat = kk - 1 := by omega
          obtain ⟨adp, eadp, hp0⟩ := Kd.at_int (Kd.R_reads' HG.out).2.2 ((kk : Int) - 1) (by omega) (by omega)
          cases eadp
          have erd : rd g ((kk : Int) - 1) = g.getD (kk - 1) 0 := by unfold rd; rw [e_1]
          rw [erd, e_1] at hp0
          clear erd e_1
          obtain ⟨yp, hyp⟩ : ∃ y, y = g.getD (kk - 1) 0 := ⟨_, rfl⟩
          rw [← hyp] at hp0
          have HYP := Aside0.mk hyp
          clear hyp
          have ew : wrap64 ((kk : Int) - 1) = (kk : Int) - 1 := wrap_in (by omega) (by omega)
          have i0 : (0 ≤ (kk : Int) - 1) = True := eq_true (by omega)
          have i1 : ((kk : Int) - 1 < (g.length : Int)) = True := eq_true (by omega)
          by_cases hq : 0 < yp
          · have c5b : decide (yp > 0) = true := decide_eq_true hq
            have c5c : decide (0 < yp) = true := decide_eq_true hq
            have E1 := Aside0.mk (covN_set (c := g) (n := kk) HYZ.out hp (by rw [← HYP.out]; exact hq))
            have hne : 0 < (covN g kk).length := by
              obtain ⟨m, rfl⟩ : ∃ m, kk = m + 1 := ⟨kk - 1, by omega⟩
              exact covN_ne g m (by have h_ := HYP.out; simp only [Nat.add_sub_cancel] at h_; omega)
            obtain ⟨gd, cap, eo, hgd, hgl, _⟩ := Kd.R_form HO.out hne
            subst eo
            have hol2 : (covN g kk).length ≤ 1048576 := by have := HLg.out; have := HM.out; omega
            have hol1 : 0 < (covN g kk).length := hne
            have GE := Aside0.mk hgd
            have GL := Aside0.mk hgl
            clear hgd hgl hne
            have d0z : 0 ≤ ((covN g kk).length : Int) - 1 := by omega
            have d1z : ((covN g kk).length : Int) - 1 < ((covN g kk).length : Int) := by omega
            obtain ⟨ce, hcl, hMe, hcc, hfr⟩ := Kd.R_elem HO.out (0, 0) (((covN g kk).length : Int) - 1) d0z d1z
            obtain rfl := kA2_openM hMe
            have et : (((covN g kk).length : Int) - 1).toNat = (covN g kk).length - 1 := by omega
            have hc0 := hcc 0 _ rfl
            have hc1 := hcc 1 _ rfl
            have hf0 := hfr 0
            have hf1 := hfr 1
            have HP := Kd.R_seg HO.out (((covN g kk).length : Int) - 1) d0z d1z (seg := [.int .i64 (kk : Int)]) (j := 1) hcl hcc (show 2 ≤ 2 from by decide) (x' := ((rd_A2 (covN g kk) (((covN g kk).length : Int) - 1)).1, (kk : Int))) (kA2_mkM _ _ _ ((rd_A2 (covN g kk) (((covN g kk).length : Int) - 1)).1, (kk : Int))) (fun _ hk => hk)
            rw [et] at HP
            replace HP := Aside0.mk HP
            have HGd := Aside0.mk (show ∀ k, (n1 ≤ k ∧ k < n2) → k ≠ gd from fun k hk e => by subst e; exact HO.out.1 k rfl hk)
            simp only [show (kA2).sz = 2 from rfl, et, Nat.add_zero] at hc0 hc1 hf0 hf1
            clear hcl hcc hfr hMe
            have ew2 : wrap64 (((covN g kk).length : Int) - 1) = ((covN g kk).length : Int) - 1 := wrap_in (by omega) (by omega)
            replace d0z := eq_true d0z
            replace d1z := eq_true d1z
            replace hiz := eq_true hiz
            replace h0z := eq_true h0z
            go_wp2
            go_roundg (g.length - (kk + 1))
            case measure => omega
            case rel => exact ⟨kk + 1, by omega, by omega, by go_num, ⟨by rw [E1.out]; rw [show (covN g kk).length - 1 = (((covN g kk).length : Int) - 1).toNat by omega]; (with_reducible repeat (first | apply Kd.R_alloc | apply Kd.R_drewN | apply Kd.R_drew)); first | exact HP.out.1 | (rw [et]; exact HP.out.1)⟩, ⟨by (with_reducible repeat (first | apply Kd.R_alloc | apply Kd.R_drewN | apply Kd.R_drew)); exact Kd.R_far (p := ⟨gd, _, none⟩) HG.out HGd.out _⟩, ⟨by first | exact below_set HB.out GE.out | (apply pw_below_drewN; exact below_set HB.out GE.out)⟩, ⟨sz_set HZ.out⟩⟩
          · have c5b : decide (yp > 0) = false := decide_eq_false hq
            have c5c : decide (0 < yp) = false := decide_eq_false hq
            have E1 := Aside0.mk (covN_app (c := g) (n := kk) HYZ.out (fun h => hq (by rw [HYP.out]; exact h.2)))
            replace hiz := eq_true hiz
            replace h0z := eq_true h0z
            go_wp2_with ((with_reducible refine gate_builtin (b := .append) (xs := #[.tmp 30, .tmp 34]) rfl ?_); at_builtin; refine Kd.R_append kA2 (w0 := w) w.heap.size rfl (.tmp 30) (.tmp 34) 28 53 (.agg #[(.int .i64 0), (.int .i64 0)]) 16 rfl Try.underlying28 infoA2 rfl (by decide) (by omega) u10 (covN g kk) ((kk : Int), (kk : Int)) [.int .i64 (kk : Int), .int .i64 (kk : Int)] (fun k_ => ¬ (n1 ≤ k_ ∧ k_ < n2)) (fun _ => False) rfl rfl ?aP (fun _ hk => hk.elim) ?aF ?aO ?aB ?aS ?aL ?_; (case aP => exact kA2_mkM _ _ _ ((kk : Int), (kk : Int))); (case aF => exact (fun k_ hk h_ => absurd (Nat.lt_of_lt_of_le h_.2 (Nat.le_trans HZ.out hk)) (Nat.lt_irrefl _))); (case aO => exact HO.out); (case aB => exact (by repeat (first | (with_reducible first | exact HB.out | apply below_alloc | apply pw_below_drewN | apply below_drew1) | exact HB.out))); (case aS => exact (below_size (by repeat (first | (with_reducible first | exact HB.out | apply below_alloc | apply pw_below_drewN | apply below_drew1) | exact HB.out)))); (case aL => have := HLg.out; have := HM.out; omega); intro v35 w35 ho hb hg hat; rw [← E1.out] at ho; have n0_ := Aside0.mk ho; have n1_ := Aside0.mk hb; have n2_ := Aside0.mk (Kd.R_grown HG.out hg (fun k hk e => HO.out.1 k e.symm hk)); have n3_ := Aside0.mk (Nat.le_trans HZ.out hg.size); clear HO HB HG HZ; have HO := n0_; have HB := n1_; have HG := n2_; have HZ := n3_; clear n0_ n1_ n2_ n3_ ho hb hg hat)
            go_roundg (g.length - (kk + 1))
            case measure => omega
            case rel => exact ⟨kk + 1, by omega, by omega, by go_num, ⟨by (with_reducible repeat (first | apply Kd.R_alloc | apply Kd.R_drewN | apply Kd.R_drew)); exact HO.out⟩, ⟨by (with_reducible repeat (first | apply Kd.R_alloc | apply Kd.R_drewN | apply Kd.R_drew)); exact HG.out⟩, ⟨by repeat (first | (with_reducible first | exact HB.out | apply below_alloc | apply pw_below_drewN | apply below_drew1) | exact HB.out)⟩, ⟨by repeat (first | exact HZ.out | (with_reducible first | apply sz_alloc | apply sz_drewN | apply sz_drew | apply sz_set))⟩⟩
        · have c4b : decide ((kk : Int) > 0) = false := decide_eq_false (by omega)
          have c4c : decide (0 < (kk : Int)) = false := decide_eq_false (by omega)
          have E1 := Aside0.mk (covN_app (c := g) (n := kk) HYZ.out (fun h => hp h.1))
          replace hiz := eq_true hiz
          replace h0z := eq_true h0z
          go_wp2_with ((with_reducible refine gate_builtin (b := .append) (xs := #[.tmp 30, .tmp 34]) rfl ?_); at_builtin; refine Kd.R_append kA2 (w0 := w) w.heap.size rfl (.tmp 30) (.tmp 34) 28 53 (.agg #[(.int .i64 0), (.int .i64 0)]) 16 rfl Try.underlying28 infoA2 rfl (by decide) (by omega) u10 (covN g kk) ((kk : Int), (kk : Int)) [.int .i64 (kk : Int), .int .i64 (kk : Int)] (fun k_ => ¬ (n1 ≤ k_ ∧ k_ < n2)) (fun _ => False) rfl rfl ?aP (fun _ hk => hk.elim) ?aF ?aO ?aB ?aS ?aL ?_; (case aP => exact kA2_mkM _ _ _ ((kk : Int), (kk : Int))); (case aF => exact (fun k_ hk h_ => absurd (Nat.lt_of_lt_of_le h_.2 (Nat.le_trans HZ.out hk)) (Nat.lt_irrefl _))); (case aO => exact HO.out); (case aB => exact (by repeat (first | (with_reducible first | exact HB.out | apply below_alloc | apply pw_below_drewN | apply below_drew1) | exact HB.out))); (case aS => exact (below_size (by repeat (first | (with_reducible first | exact HB.out | apply below_alloc | apply pw_below_drewN | apply below_drew1) | exact HB.out)))); (case aL => have := HLg.out; have := HM.out; omega); intro v35 w35 ho hb hg hat; rw [← E1.out] at ho; have n0_ := Aside0.mk ho; have n1_ := Aside0.mk hb; have n2_ := Aside0.mk (Kd.R_grown HG.out hg (fun k hk e => HO.out.1 k e.symm hk)); have n3_ := Aside0.mk (Nat.le_trans HZ.out hg.size); clear HO HB HG HZ; have HO := n0_; have HB := n1_; have HG := n2_; have HZ := n3_; clear n0_ n1_ n2_ n3_ ho hb hg hat)
          go_roundg (g.length - (kk + 1))
          case measure => omega
          case rel => exact ⟨kk + 1, by omega, by omega, by go_num, ⟨by (with_reducible repeat (first | apply Kd.R_alloc | apply Kd.R_drewN | apply Kd.R_drew)); exact HO.out⟩, ⟨by (with_reducible repeat (first | apply Kd.R_alloc | apply Kd.R_drewN | apply Kd.R_drew)); exact HG.out⟩, ⟨by repeat (first | (with_reducible first | exact HB.out | apply below_alloc | apply pw_below_drewN | apply below_drew1) | exact HB.out)⟩, ⟨by repeat (first | exact HZ.out | (with_reducible first | apply sz_alloc | apply sz_drewN | apply sz_drew | apply sz_set))⟩⟩
    · obtain ekk : kk = g.length := by omega
      subst ekk
      have hiz : ¬ (g.length : Int) < (g.length : Int) := by omega
      have c1b : decide ((g.length : Int) < (g.length : Int)) = false := decide_eq_false hiz
      go_wp2
      go_ret2
      exact ⟨_, rfl, by (with_reducible repeat (first | apply Kd.R_alloc | apply Kd.R_drewN | apply Kd.R_drew)); exact Kd.R_mono HO.out (fun _ _ => trivial), by repeat (first | (with_reducible first | exact HB.out | apply below_alloc | apply pw_below_drewN | apply below_drew1) | exact HB.out)⟩
end Go.Proofs.Ytiiocpeeobjlgaa.P
end
section
namespace Go.Proofs.Ytiiocpeeobjlgaa.P
open Go.RowKit Go.Proofs.YtiiocpeeobjlgaaW.PrintWords Go.Proofs.YtiiocpeeobjlgaaW.PrintLast Go.Proofs.YtiiocpeeobjlgaaW.PrintMore
set_option linter.unusedVariables false
set_option linter.unusedSimpArgs false
mutual
def spec_l3Watched.l0 : Nat → List (S56) → Int → List (List Int) → Option (Bool)
  | 0, _, _, _ => none
  | k + 1, x1, x5, x185000 => if x5 < (x1.length : Int) then (spec_l3Watched.j1 k x1 x5 (decide (x5 ≤ 12)) x185000) else (spec_l3Watched.j1 k x1 x5 false x185000)
def spec_l3Watched.j1 : Nat → List (S56) → Int → Bool → List (List Int) → Option (Bool)
  | 0, _, _, _, _ => none
  | k + 1, x1, x5, x13, x185000 => if x13 = true then (if 0 ≤ x5 then (if x5 < (x1.length : Int) then ((spec_l2Window.f k x185000 ((rd_T56 x1 x5).f0) ((rd_T56 x1 x5).f1) ((rd_T56 x1 x5).f2) ((rd_T56 x1 x5).f3)).bind fun t186 => (if t186 = true then (spec_l3Watched.l0 k x1 (wrap64 (x5 + 1)) x185000) else (some false))) else (none)) else (none)) else ((spec_l2Memory.f k x185000).bind fun t187 => (if t187 = true then (some (decide ((x1.length : Int) ≤ 12))) else (some false)))
end
def spec_l3Watched.f (k : Nat) (l0_0 : List (List Int)) (l1 : List (S56)) : Option (Bool) := spec_l3Watched.l0 k l1 0 l0_0
set_option maxHeartbeats 8000000 in
set_option maxRecDepth 100000 in
theorem spec_l3Watched.calls (k : Nat) (A0_0 : Option Addr) (c0_0 : Nat) (l0_0 : List (List Int)) (A1 : Option Addr) (c1 : Nat) (l1 : List (S56)) (r : Bool) (w : World) (hr0_0 : Kd.C (Kd.slice 5 (Kd.int .u8)) w A0_0 l0_0.length l0_0) (hc0_0 : l0_0.length ≤ c0_0) (hr1 : Kd.C k56 w A1 l1.length l1) (hc1 : l1.length ≤ c1) (h : spec_l3Watched.f k l0_0 l1 = some r) :
    Calls Try.prog 24 #[.agg #[.slice A0_0 l0_0.length c0_0], .slice A1 l1.length c1] w fun e w' => e = .returned (.bool r) ∧ Below w.heap.size w w' := by
  have hu31 := Try.underlying31
  have hu56 := Try.underlying56
  have HR0_0 := Aside0.mk hr0_0
  have HC0_0 := Aside0.mk hc0_0
  clear hr0_0 hc0_0
  have HR1 := Aside0.mk hr1
  have HC1 := Aside0.mk hc1
  clear hr1 hc1
  have HB := Aside0.mk (Below.refl w.heap.size w)
  have H : (spec_l3Watched.l0 k l1 0 l0_0) = some r := h
  clear h
  have H' := Aside0.mk H
  clear H
  go_enter Try.func24, Try.ntmps24
  go_wp2_with (first | ((with_reducible refine gate_dst (N := 2) rfl ?_); (try (refine gate_guard (by rfl) ?_; dsimp only)); refine box_event ?hg (N := 2) ?hd (cs := #[.slice A0_0 l0_0.length c0_0]) (t := 31) ?hr ?_; (case hd => rfl); (case hg => rfl); (case hr => first | (go_simp; done) | (go_simp; rfl)); intro gb184 hg w3 hbox hb; have n0_ := Aside0.mk (below_step (by repeat (first | (with_reducible first | exact HB.out | apply below_alloc | apply pw_below_drewN | apply below_drew1) | exact HB.out)) hb); have n1_ := Aside0.mk (hbox); have n2_ := Aside0.mk ((by rw [hg]; exact (below_size (by repeat (first | (with_reducible first | exact HB.out | apply below_alloc | apply pw_below_drewN | apply below_drew1) | exact HB.out))) : w.heap.size ≤ gb184)); have n3_ := Aside0.mk ((by rw [hg]; exact (below_size (by repeat (first | (with_reducible first | exact HB.out | apply below_alloc | apply pw_below_drewN | apply below_drew1) | exact HB.out))) : w.heap.size ≤ gb184)); clear HB; have HB := n0_; have BK184 := n1_; have GW184 := n2_; have GE184 := n3_; clear n0_ n1_ n2_ n3_; clear hb hbox hg))
  go_loopg [5] k (fun kq v5 w' => ∃ (x5_1 : Int), v5 = .int .i64 x5_1 ∧ Aside0 (spec_l3Watched.l0 kq l1 x5_1 l0_0 = some r) ∧ Aside0 (kq ≤ k) ∧ Aside0 (w'.heap[gb184]? = some (.cells #[(.slice A0_0 l0_0.length c0_0)] 31 (0, 0))) ∧ Aside0 (Below w.heap.size w w'))
  case atStart => exact ⟨(0), (by first | rfl | (simp; done) | (simp [*]; done)), H', ⟨Nat.le_refl _⟩, ⟨by (with_reducible repeat (first | refine blk_drewN ?_ _ | refine blk_drew ?_ | refine blk_alloc ?_ _)); exact BK184.out⟩, ⟨by repeat (first | (with_reducible first | exact HB.out | apply below_alloc | apply pw_below_drewN | apply below_drew1 | refine below_set ?_ GE184.out) | exact HB.out)⟩⟩
  case round =>
    clear H'
    try clear c1
    try clear c2
    try clear p2
    obtain ⟨x5_1, rfl, HA, HK1, BK184, HB⟩ := hrel
    cases gk with
    | zero => exact absurd HA.out (by simp [spec_l3Watched.l0])
    | succ k1 =>
      have H := HA.out
      clear HA
      simp only [spec_l3Watched.l0] at H
      have HC4 := Aside0.mk H
      clear H
      go_upto_region 2 with (fail)
      go_cut [13] (fun v13 wc => ∃ (kq : Nat) (x13_3 : Bool), v13 = .bool x13_3 ∧ Aside0 (spec_l3Watched.j1 kq l1 x5_1 x13_3 l0_0 = some r) ∧ Aside0 (kq ≤ k1) ∧ Aside0 (wc.heap[gb184]? = some (.cells #[(.slice A0_0 l0_0.length c0_0)] 31 (0, 0))) ∧ Aside0 (Below w.heap.size w wc))
      case first =>
        have H := HC4.out
        clear HC4
        by_cases c5 : x5_1 < (l1.length : Int)
        · rw [if_pos c5] at H
          have c5b0 : decide (x5_1 < (l1.length : Int)) = true := decide_eq_true c5
          clear c5
          (first | rw [c5b0] | (simp only [i64_w, i32_w]; rw [c5b0]) | skip)
          have H' := Aside0.mk H
          clear H
          go_wp2
          go_meet
          case rel => exact ⟨_, (decide (x5_1 ≤ 12)), (by first | rfl | (simp; done) | (simp [*]; done)), H', ⟨by have := HK1.out; first | omega | exact Nat.le_refl _⟩, ⟨by (with_reducible repeat (first | refine blk_drewN ?_ _ | refine blk_drew ?_ | refine blk_alloc ?_ _)); exact BK184.out⟩, ⟨by repeat (first | (with_reducible first | exact HB.out | apply below_alloc | apply pw_below_drewN | apply below_drew1 | refine below_set ?_ GE184.out) | exact HB.out)⟩⟩
        · rw [if_neg c5] at H
          have c5b0 : decide (x5_1 < (l1.length : Int)) = false := decide_eq_false c5
          clear c5
          (first | rw [c5b0] | (simp only [i64_w, i32_w]; rw [c5b0]) | skip)
          have H' := Aside0.mk H
          clear H
          go_wp2
          go_meet
          case rel => exact ⟨_, (false), (by first | rfl | (simp; done) | (simp [*]; done)), H', ⟨by have := HK1.out; first | omega | exact Nat.le_refl _⟩, ⟨by (with_reducible repeat (first | refine blk_drewN ?_ _ | refine blk_drew ?_ | refine blk_alloc ?_ _)); exact BK184.out⟩, ⟨by repeat (first | (with_reducible first | exact HB.out | apply below_alloc | apply pw_below_drewN | apply below_drew1 | refine below_set ?_ GE184.out) | exact HB.out)⟩⟩
      case rest =>
        clear HC4
        try clear c1
        try clear c2
        try clear p2
        try clear c5
        try clear c5b0
        try clear p2
        obtain ⟨kq, x13_3, rfl, HA, HJ3, BK184, HB⟩ := hcut
        cases kq with
        | zero => exact absurd HA.out (by simp [spec_l3Watched.j1])
        | succ kj3 =>
          have H := HA.out
          clear HA
          simp only [spec_l3Watched.j1] at H
          by_cases c6 : x13_3 = true
          · subst c6
            have H1 : (if 0 ≤ x5_1 then (if x5_1 < (l1.length : Int) then ((spec_l2Window.f kj3 l0_0 ((rd_T56 l1 x5_1).f0) ((rd_T56 l1 x5_1).f1) ((rd_T56 l1 x5_1).f2) ((rd_T56 l1 x5_1).f3)).bind fun t186 => (if t186 = true then (spec_l3Watched.l0 kj3 l1 (wrap64 (x5_1 + 1)) l0_0) else (some false))) else (none)) else (none)) = some r := by rw [if_pos rfl] at H; exact H
            clear H
            have H := H1
            clear H1
            by_cases c7 : 0 ≤ x5_1
            · rw [if_pos c7] at H
              have c7b0 : decide (0 ≤ x5_1) = true := decide_eq_true c7
              clear c7
              by_cases c8 : x5_1 < (l1.length : Int)
              · rw [if_pos c8] at H
                have c8b0 : decide (x5_1 < (l1.length : Int)) = true := decide_eq_true c8
                clear c8
                replace H := Option.bind_eq_some_iff.mp H
                obtain ⟨t186, A90, H⟩ := H
                replace H : (if t186 = true then (spec_l3Watched.l0 kj3 l1 (wrap64 (x5_1 + 1)) l0_0) else (some false)) = some r := H
                have A9 := Aside0.mk A90
                clear A90
                by_cases c10 : t186 = true
                · subst c10
                  have H1 : (spec_l3Watched.l0 kj3 l1 (wrap64 (x5_1 + 1)) l0_0) = some r := by rw [if_pos rfl] at H; exact H
                  clear H
                  have H := H1
                  clear H1
                  have H' := Aside0.mk H
                  clear H
                  try go_wp2
                  have n0_ := Aside0.mk (blk_drew BK184.out)
                  have n1_ := Aside0.mk (below_drew1 HB.out)
                  clear BK184
                  clear HB
                  have BK184 := n0_
                  have HB := n1_
                  clear n0_ n1_
                  have p185 : 0 ≤ (x5_1 : Int) := of_decide_eq_true (by first | (with_reducible assumption) | assumption)
                  have q185 : x5_1 < (l1.length : Int) := of_decide_eq_true (by first | (with_reducible assumption) | assumption)
                  obtain ⟨ad185, e185, hx185_0, hx185_1, hx185_2, hx185_3⟩ := at_T56 HR1.out x5_1 p185 q185
                  have hw185_3 := hx185_3
                  have hw185_2 := hx185_2
                  have hw185_1 := hx185_1
                  have hw185_0 := hx185_0
                  cases e185
                  replace hx185_0 := (HB.out.cell (World.block_lt_of_cell? w _ hx185_0)).trans hx185_0
                  replace hx185_1 := (HB.out.cell (World.block_lt_of_cell? w _ hx185_1)).trans hx185_1
                  replace hx185_2 := (HB.out.cell (World.block_lt_of_cell? w _ hx185_2)).trans hx185_2
                  replace hx185_3 := (HB.out.cell (World.block_lt_of_cell? w _ hx185_3)).trans hx185_3
                  replace p185 := eq_true p185
                  replace q185 := eq_true q185
                  refine start_ (n := 7) (S := fun w' => w'.cell? ⟨gb184, 0, none⟩ = some (.slice A0_0 l0_0.length c0_0) ∧ w'.cell? (ad185.add ((x5_1).toNat * 4)) = some (.int .i64 ((rd_T56 l1 x5_1).f0)) ∧ w'.cell? ⟨(ad185.add ((x5_1).toNat * 4)).block, (ad185.add ((x5_1).toNat * 4)).off + 1, none⟩ = some (.int .i64 ((rd_T56 l1 x5_1).f1)) ∧ w'.cell? ⟨(ad185.add ((x5_1).toNat * 4)).block, (ad185.add ((x5_1).toNat * 4)).off + 2, none⟩ = some (.int .i64 ((rd_T56 l1 x5_1).f2)) ∧ w'.cell? ⟨(ad185.add ((x5_1).toNat * 4)).block, (ad185.add ((x5_1).toNat * 4)).off + 3, none⟩ = some (.int .i64 ((rd_T56 l1 x5_1).f3))) (ds := []) #[false, false, false, false, false, false, false] (by kernel_rfl) rfl rfl ⟨(blk_cell BK184.out 0).trans rfl, ((HB.out.cell (World.block_lt_of_cell? w _ hw185_0)).trans hw185_0), ((HB.out.cell (World.block_lt_of_cell? w _ hw185_1)).trans hw185_1), ((HB.out.cell (World.block_lt_of_cell? w _ hw185_2)).trans hw185_2), ((HB.out.cell (World.block_lt_of_cell? w _ hw185_3)).trans hw185_3)⟩ (fun hHeld => ?_)
                  generalize wc.drew = w11 at BK184 HB hx185_0 hx185_1 hx185_2 hx185_3 hHeld ⊢
                  refine pure_ (i := 1) (N := some 17) (v := ?_) (a' := ?_) #[false, true, false, false, false, false, false] rfl rfl (by kernel_rfl) (fun _ _ _ h => h) (Or.inl ⟨by rfl, ?_⟩) ?_ ?_
                  rotate_left
                  · intro w'
                    go_simp
                    with_reducible rfl
                  rotate_left
                  · simp only [Act.put, List.setIfInBounds_toArray, List.set_cons_zero, List.set_cons_succ, i64_w, i32_w]
                    rfl
                  refine pure_ (i := 2) (N := some 18) (v := ?_) (a' := ?_) #[false, true, true, false, false, false, false] rfl rfl (by kernel_rfl) (fun _ _ _ h => h) (Or.inl ⟨by rfl, ?_⟩) ?_ ?_
                  rotate_left
                  · intro w'
                    go_simp
                    with_reducible rfl
                  rotate_left
                  · simp only [Act.put, List.setIfInBounds_toArray, List.set_cons_zero, List.set_cons_succ, i64_w, i32_w]
                    rfl
                  refine pure_ (i := 3) (N := some 19) (v := ?_) (a' := ?_) #[false, true, true, true, false, false, false] rfl rfl (by kernel_rfl) (fun _ _ _ h => h) (Or.inl ⟨by rfl, ?_⟩) ?_ ?_
                  rotate_left
                  · intro w'
                    go_simp
                    with_reducible rfl
                  rotate_left
                  · simp only [Act.put, List.setIfInBounds_toArray, List.set_cons_zero, List.set_cons_succ, i64_w, i32_w]
                    rfl
                  refine take_ (i := 0) (N := some 16) (v := ?_) (a' := ?_) #[true, true, true, true, false, false, false] rfl rfl (by kernel_rfl) (fun _ _ _ h => h) (Or.inl ⟨by rfl, ?_⟩) hHeld ?_ ?_
                  rotate_left
                  · rintro w' ⟨s0, s1, s2, s3, s4⟩
                    go_simp
                    with_reducible rfl
                  rotate_left
                  · simp only [Act.put, List.setIfInBounds_toArray, List.set_cons_zero, List.set_cons_succ, i64_w, i32_w]
                    rfl
                  refine take_ (i := 4) (N := some 20) (v := ?_) (a' := ?_) #[true, true, true, true, true, false, false] rfl rfl (by kernel_rfl) (fun _ _ _ h => h) (Or.inl ⟨by rfl, ?_⟩) hHeld ?_ ?_
                  rotate_left
                  · rintro w' ⟨s0, s1, s2, s3, s4⟩
                    go_simp
                    with_reducible rfl
                  rotate_left
                  · simp only [Act.put, List.setIfInBounds_toArray, List.set_cons_zero, List.set_cons_succ, i64_w, i32_w]
                    rfl
                  refine one_ (i := 5) (N := some 21) #[true, true, true, true, true, true, false] rfl rfl (by kernel_rfl) (by decide) (fun K hK => ?_)
                  refine goes_ Try.func42 (by kernel_rfl) rfl #[.agg #[.slice A0_0 l0_0.length c0_0], .agg #[.int .i64 ((rd_T56 l1 x5_1).f0), .int .i64 ((rd_T56 l1 x5_1).f1), .int .i64 ((rd_T56 l1 x5_1).f2), .int .i64 ((rd_T56 l1 x5_1).f3)]] (by rfl) rfl rfl (by (try simp only [List.map_toArray, List.map_cons, List.map_nil]); first | done | rfl | (simp only [List.length_drop, List.length_take]; rfl)) ?_
                  with_reducible refine (spec_l2Window.calls kj3 _ _ l0_0 ((rd_T56 l1 x5_1).f0) ((rd_T56 l1 x5_1).f1) ((rd_T56 l1 x5_1).f2) ((rd_T56 l1 x5_1).f3) true _ ?side1 ?side2 A9.out).mono ?_
                  (case side1 => repeat (first | exact (Kd.C_below HR0_0.out HB.out) | (with_reducible refine Kd.C_alloc ?_ _) | (with_reducible refine Kd.C_drewN ?_ _) | (with_reducible refine Kd.C_drew ?_)))
                  (case side2 => exact HC0_0.out)
                  rintro e w12 ⟨rfl, hb⟩
                  refine ⟨_, rfl, ?_⟩
                  have n0_ := Aside0.mk (blk_below (g := gb184) (o := .cells #[.slice A0_0 l0_0.length c0_0] 31 (0, 0)) (by (with_reducible repeat (first | refine blk_drewN ?_ _ | refine blk_drew ?_ | refine blk_alloc ?_ _)); exact BK184.out) hb)
                  have n1_ := Aside0.mk (below_step (by repeat (first | (with_reducible first | exact HB.out | apply below_alloc | apply pw_below_drewN | apply below_drew1 | refine below_set ?_ GE184.out) | exact HB.out)) hb)
                  clear BK184
                  clear HB
                  have BK184 := n0_
                  have HB := n1_
                  clear n0_ n1_
                  (try clear hb)
                  (try clear hb2)
                  (try clear hk)
                  (try clear hi)
                  refine hK.out _ _ ⟨(blk_cell BK184.out 0).trans rfl, ((HB.out.cell (World.block_lt_of_cell? w _ hw185_0)).trans hw185_0), ((HB.out.cell (World.block_lt_of_cell? w _ hw185_1)).trans hw185_1), ((HB.out.cell (World.block_lt_of_cell? w _ hw185_2)).trans hw185_2), ((HB.out.cell (World.block_lt_of_cell? w _ hw185_3)).trans hw185_3)⟩ (fun hHeld => ?_)
                  clear hK K
                  refine norm_ (a' := ?_) ?_ ?_
                  rotate_left
                  · show Act.put _ (some 21) _ = _
                    simp only [Act.put, List.setIfInBounds_toArray, List.set_cons_zero, List.set_cons_succ, i64_w, i32_w]
                    rfl
                  refine pure_ (i := 6) (N := some 22) (v := ?_) (a' := ?_) #[true, true, true, true, true, true, true] rfl rfl (by kernel_rfl) (fun _ _ _ h => h) (Or.inl ⟨by rfl, ?_⟩) ?_ ?_
                  rotate_left
                  · intro w'
                    go_simp
                    with_reducible rfl
                  rotate_left
                  · simp only [Act.put, List.setIfInBounds_toArray, List.set_cons_zero, List.set_cons_succ, i64_w, i32_w]
                    rfl
                  refine done_ (by kernel_rfl) ?_
                  try go_wp2
                  go_roundg kj3
                  case measure => have := HK1.out; have := HJ3.out; omega
                  case rel => exact ⟨(wrap64 (x5_1 + 1)), (by first | rfl | (simp; done) | (simp [*]; done)), H', ⟨by have := HK1.out; have := HJ3.out; omega⟩, ⟨by (with_reducible repeat (first | refine blk_drewN ?_ _ | refine blk_drew ?_ | refine blk_alloc ?_ _)); exact BK184.out⟩, ⟨by repeat (first | (with_reducible first | exact HB.out | apply below_alloc | apply pw_below_drewN | apply below_drew1 | refine below_set ?_ GE184.out) | exact HB.out)⟩⟩
                · replace c10 := Bool.eq_false_iff.mpr c10
                  subst c10
                  have H1 : (some false) = some r := by rw [if_neg (show ¬ (false = true) by decide)] at H; exact H
                  clear H
                  have H := H1
                  clear H1
                  obtain rfl := Option.some.inj H
                  try go_wp2
                  have n0_ := Aside0.mk (blk_drew BK184.out)
                  have n1_ := Aside0.mk (below_drew1 HB.out)
                  clear BK184
                  clear HB
                  have BK184 := n0_
                  have HB := n1_
                  clear n0_ n1_
                  have p185 : 0 ≤ (x5_1 : Int) := of_decide_eq_true (by first | (with_reducible assumption) | assumption)
                  have q185 : x5_1 < (l1.length : Int) := of_decide_eq_true (by first | (with_reducible assumption) | assumption)
                  obtain ⟨ad185, e185, hx185_0, hx185_1, hx185_2, hx185_3⟩ := at_T56 HR1.out x5_1 p185 q185
                  have hw185_3 := hx185_3
                  have hw185_2 := hx185_2
                  have hw185_1 := hx185_1
                  have hw185_0 := hx185_0
                  cases e185
                  replace hx185_0 := (HB.out.cell (World.block_lt_of_cell? w _ hx185_0)).trans hx185_0
                  replace hx185_1 := (HB.out.cell (World.block_lt_of_cell? w _ hx185_1)).trans hx185_1
                  replace hx185_2 := (HB.out.cell (World.block_lt_of_cell? w _ hx185_2)).trans hx185_2
                  replace hx185_3 := (HB.out.cell (World.block_lt_of_cell? w _ hx185_3)).trans hx185_3
                  replace p185 := eq_true p185
                  replace q185 := eq_true q185
                  refine start_ (n := 7) (S := fun w' => w'.cell? ⟨gb184, 0, none⟩ = some (.slice A0_0 l0_0.length c0_0) ∧ w'.cell? (ad185.add ((x5_1).toNat * 4)) = some (.int .i64 ((rd_T56 l1 x5_1).f0)) ∧ w'.cell? ⟨(ad185.add ((x5_1).toNat * 4)).block, (ad185.add ((x5_1).toNat * 4)).off + 1, none⟩ = some (.int .i64 ((rd_T56 l1 x5_1).f1)) ∧ w'.cell? ⟨(ad185.add ((x5_1).toNat * 4)).block, (ad185.add ((x5_1).toNat * 4)).off + 2, none⟩ = some (.int .i64 ((rd_T56 l1 x5_1).f2)) ∧ w'.cell? ⟨(ad185.add ((x5_1).toNat * 4)).block, (ad185.add ((x5_1).toNat * 4)).off + 3, none⟩ = some (.int .i64 ((rd_T56 l1 x5_1).f3))) (ds := []) #[false, false, false, false, false, false, false] (by kernel_rfl) rfl rfl ⟨(blk_cell BK184.out 0).trans rfl, ((HB.out.cell (World.block_lt_of_cell? w _ hw185_0)).trans hw185_0), ((HB.out.cell (World.block_lt_of_cell? w _ hw185_1)).trans hw185_1), ((HB.out.cell (World.block_lt_of_cell? w _ hw185_2)).trans hw185_2), ((HB.out.cell (World.block_lt_of_cell? w _ hw185_3)).trans hw185_3)⟩ (fun hHeld => ?_)
                  generalize wc.drew = w13 at BK184 HB hx185_0 hx185_1 hx185_2 hx185_3 hHeld ⊢
                  refine pure_ (i := 1) (N := some 17) (v := ?_) (a' := ?_) #[false, true, false, false, false, false, false] rfl rfl (by kernel_rfl) (fun _ _ _ h => h) (Or.inl ⟨by rfl, ?_⟩) ?_ ?_
                  rotate_left
                  · intro w'
                    go_simp
                    with_reducible rfl
                  rotate_left
                  · simp only [Act.put, List.setIfInBounds_toArray, List.set_cons_zero, List.set_cons_succ, i64_w, i32_w]
                    rfl
                  refine pure_ (i := 2) (N := some 18) (v := ?_) (a' := ?_) #[false, true, true, false, false, false, false] rfl rfl (by kernel_rfl) (fun _ _ _ h => h) (Or.inl ⟨by rfl, ?_⟩) ?_ ?_
                  rotate_left
                  · intro w'
                    go_simp
                    with_reducible rfl
                  rotate_left
                  · simp only [Act.put, List.setIfInBounds_toArray, List.set_cons_zero, List.set_cons_succ, i64_w, i32_w]
                    rfl
                  refine pure_ (i := 3) (N := some 19) (v := ?_) (a' := ?_) #[false, true, true, true, false, false, false] rfl rfl (by kernel_rfl) (fun _ _ _ h => h) (Or.inl ⟨by rfl, ?_⟩) ?_ ?_
                  rotate_left
                  · intro w'
                    go_simp
                    with_reducible rfl
                  rotate_left
                  · simp only [Act.put, List.setIfInBounds_toArray, List.set_cons_zero, List.set_cons_succ, i64_w, i32_w]
                    rfl
                  refine take_ (i := 0) (N := some 16) (v := ?_) (a' := ?_) #[true, true, true, true, false, false, false] rfl rfl (by kernel_rfl) (fun _ _ _ h => h) (Or.inl ⟨by rfl, ?_⟩) hHeld ?_ ?_
                  rotate_left
                  · rintro w' ⟨s0, s1, s2, s3, s4⟩
                    go_simp
                    with_reducible rfl
                  rotate_left
                  · simp only [Act.put, List.setIfInBounds_toArray, List.set_cons_zero, List.set_cons_succ, i64_w, i32_w]
                    rfl
                  refine take_ (i := 4) (N := some 20) (v := ?_) (a' := ?_) #[true, true, true, true, true, false, false] rfl rfl (by kernel_rfl) (fun _ _ _ h => h) (Or.inl ⟨by rfl, ?_⟩) hHeld ?_ ?_
                  rotate_left
                  · rintro w' ⟨s0, s1, s2, s3, s4⟩
                    go_simp
                    with_reducible rfl
                  rotate_left
                  · simp only [Act.put, List.setIfInBounds_toArray, List.set_cons_zero, List.set_cons_succ, i64_w, i32_w]
                    rfl
                  refine one_ (i := 5) (N := some 21) #[true, true, true, true, true, true, false] rfl rfl (by kernel_rfl) (by decide) (fun K hK => ?_)
                  refine goes_ Try.func42 (by kernel_rfl) rfl #[.agg #[.slice A0_0 l0_0.length c0_0], .agg #[.int .i64 ((rd_T56 l1 x5_1).f0), .int .i64 ((rd_T56 l1 x5_1).f1), .int .i64 ((rd_T56 l1 x5_1).f2), .int .i64 ((rd_T56 l1 x5_1).f3)]] (by rfl) rfl rfl (by (try simp only [List.map_toArray, List.map_cons, List.map_nil]); first | done | rfl | (simp only [List.length_drop, List.length_take]; rfl)) ?_
                  with_reducible refine (spec_l2Window.calls kj3 _ _ l0_0 ((rd_T56 l1 x5_1).f0) ((rd_T56 l1 x5_1).f1) ((rd_T56 l1 x5_1).f2) ((rd_T56 l1 x5_1).f3) false _ ?side1 ?side2 A9.out).mono ?_
                  (case side1 => repeat (first | exact (Kd.C_below HR0_0.out HB.out) | (with_reducible refine Kd.C_alloc ?_ _) | (with_reducible refine Kd.C_drewN ?_ _) | (with_reducible refine Kd.C_drew ?_)))
                  (case side2 => exact HC0_0.out)
                  rintro e w14 ⟨rfl, hb⟩
                  refine ⟨_, rfl, ?_⟩
                  have n0_ := Aside0.mk (blk_below (g := gb184) (o := .cells #[.slice A0_0 l0_0.length c0_0] 31 (0, 0)) (by (with_reducible repeat (first | refine blk_drewN ?_ _ | refine blk_drew ?_ | refine blk_alloc ?_ _)); exact BK184.out) hb)
                  have n1_ := Aside0.mk (below_step (by repeat (first | (with_reducible first | exact HB.out | apply below_alloc | apply pw_below_drewN | apply below_drew1 | refine below_set ?_ GE184.out) | exact HB.out)) hb)
                  clear BK184
                  clear HB
                  have BK184 := n0_
                  have HB := n1_
                  clear n0_ n1_
                  (try clear hb)
                  (try clear hb2)
                  (try clear hk)
                  (try clear hi)
                  refine hK.out _ _ ⟨(blk_cell BK184.out 0).trans rfl, ((HB.out.cell (World.block_lt_of_cell? w _ hw185_0)).trans hw185_0), ((HB.out.cell (World.block_lt_of_cell? w _ hw185_1)).trans hw185_1), ((HB.out.cell (World.block_lt_of_cell? w _ hw185_2)).trans hw185_2), ((HB.out.cell (World.block_lt_of_cell? w _ hw185_3)).trans hw185_3)⟩ (fun hHeld => ?_)
                  clear hK K
                  refine norm_ (a' := ?_) ?_ ?_
                  rotate_left
                  · show Act.put _ (some 21) _ = _
                    simp only [Act.put, List.setIfInBounds_toArray, List.set_cons_zero, List.set_cons_succ, i64_w, i32_w]
                    rfl
                  refine pure_ (i := 6) (N := some 22) (v := ?_) (a' := ?_) #[true, true, true, true, true, true, true] rfl rfl (by kernel_rfl) (fun _ _ _ h => h) (Or.inl ⟨by rfl, ?_⟩) ?_ ?_
                  rotate_left
                  · intro w'
                    go_simp
                    with_reducible rfl
                  rotate_left
                  · simp only [Act.put, List.setIfInBounds_toArray, List.set_cons_zero, List.set_cons_succ, i64_w, i32_w]
                    rfl
                  refine done_ (by kernel_rfl) ?_
                  try go_wp2
                  go_ret
                  exact ⟨by first | rfl | (simp [errW_none, errW_some] <;> rfl) | (simp [*, errW_none, errW_some] <;> rfl), by repeat (first | (with_reducible first | exact HB.out | apply below_alloc | apply pw_below_drewN | apply below_drew1 | refine below_set ?_ GE184.out) | exact HB.out)⟩
              · rw [if_neg c8] at H
                exact absurd H (by simp)
            · rw [if_neg c7] at H
              exact absurd H (by simp)
          · replace c6 := Bool.eq_false_iff.mpr c6
            subst c6
            have H1 : ((spec_l2Memory.f kj3 l0_0).bind fun t187 => (if t187 = true then (some (decide ((l1.length : Int) ≤ 12))) else (some false))) = some r := by rw [if_neg (show ¬ (false = true) by decide)] at H; exact H
            clear H
            have H := H1
            clear H1
            replace H := Option.bind_eq_some_iff.mp H
            obtain ⟨t187, A150, H⟩ := H
            replace H : (if t187 = true then (some (decide ((l1.length : Int) ≤ 12))) else (some false)) = some r := H
            have A15 := Aside0.mk A150
            clear A150
            by_cases c16 : t187 = true
            · subst c16
              have H1 : (some (decide ((l1.length : Int) ≤ 12))) = some r := by rw [if_pos rfl] at H; exact H
              clear H
              have H := H1
              clear H1
              obtain rfl := Option.some.inj H
              have hcz17_0 : wc.cell? ⟨gb184, 0, none⟩ = some (.slice A0_0 l0_0.length c0_0) := (blk_cell BK184.out 0).trans rfl
              have hfz17_0 := blk_frozen BK184.out 0
              go_wp2_with (first | ((with_reducible refine gate_callee (f := 43) rfl ?_); refine goesL_ (some 24) rfl rfl Try.func43 (by kernel_rfl) rfl #[.agg #[.slice A0_0 l0_0.length c0_0]] rfl (by (try simp only [List.map_toArray, List.map_cons, List.map_nil]); first | done | rfl | (simp only [List.length_drop, List.length_take]; rfl)) ?_; (with_reducible refine (spec_l2Memory.calls kj3 _ _ l0_0 true _ ?side1 ?side2 A15.out).mono ?_); (case side1 => repeat (first | exact (Kd.C_below HR0_0.out HB.out) | (with_reducible refine Kd.C_alloc ?_ _) | (with_reducible refine Kd.C_drewN ?_ _) | (with_reducible refine Kd.C_drew ?_))); (case side2 => exact HC0_0.out); rintro e w18 ⟨rfl, hb⟩; refine ⟨_, rfl, ?_⟩; have n0_ := Aside0.mk (blk_below (g := gb184) (o := .cells #[.slice A0_0 l0_0.length c0_0] 31 (0, 0)) (by (with_reducible repeat (first | refine blk_drewN ?_ _ | refine blk_drew ?_ | refine blk_alloc ?_ _)); exact BK184.out) hb); have n1_ := Aside0.mk (below_step (by repeat (first | (with_reducible first | exact HB.out | apply below_alloc | apply pw_below_drewN | apply below_drew1 | refine below_set ?_ GE184.out) | exact HB.out)) hb); clear BK184; clear HB; have BK184 := n0_; have HB := n1_; clear n0_ n1_; (try clear hb); (try clear hb2); (try clear hk); (try clear hi)))
              go_ret
              exact ⟨by first | rfl | (simp [errW_none, errW_some] <;> rfl) | (simp [*, errW_none, errW_some] <;> rfl), by repeat (first | (with_reducible first | exact HB.out | apply below_alloc | apply pw_below_drewN | apply below_drew1 | refine below_set ?_ GE184.out) | exact HB.out)⟩
            · replace c16 := Bool.eq_false_iff.mpr c16
              subst c16
              have H1 : (some false) = some r := by rw [if_neg (show ¬ (false = true) by decide)] at H; exact H
              clear H
              have H := H1
              clear H1
              obtain rfl := Option.some.inj H
              have hcz19_0 : wc.cell? ⟨gb184, 0, none⟩ = some (.slice A0_0 l0_0.length c0_0) := (blk_cell BK184.out 0).trans rfl
              have hfz19_0 := blk_frozen BK184.out 0
              go_wp2_with (first | ((with_reducible refine gate_callee (f := 43) rfl ?_); refine goesL_ (some 24) rfl rfl Try.func43 (by kernel_rfl) rfl #[.agg #[.slice A0_0 l0_0.length c0_0]] rfl (by (try simp only [List.map_toArray, List.map_cons, List.map_nil]); first | done | rfl | (simp only [List.length_drop, List.length_take]; rfl)) ?_; (with_reducible refine (spec_l2Memory.calls kj3 _ _ l0_0 false _ ?side1 ?side2 A15.out).mono ?_); (case side1 => repeat (first | exact (Kd.C_below HR0_0.out HB.out) | (with_reducible refine Kd.C_alloc ?_ _) | (with_reducible refine Kd.C_drewN ?_ _) | (with_reducible refine Kd.C_drew ?_))); (case side2 => exact HC0_0.out); rintro e w20 ⟨rfl, hb⟩; refine ⟨_, rfl, ?_⟩; have n0_ := Aside0.mk (blk_below (g := gb184) (o := .cells #[.slice A0_0 l0_0.length c0_0] 31 (0, 0)) (by (with_reducible repeat (first | refine blk_drewN ?_ _ | refine blk_drew ?_ | refine blk_alloc ?_ _)); exact BK184.out) hb); have n1_ := Aside0.mk (below_step (by repeat (first | (with_reducible first | exact HB.out | apply below_alloc | apply pw_below_drewN | apply below_drew1 | refine below_set ?_ GE184.out) | exact HB.out)) hb); clear BK184; clear HB; have BK184 := n0_; have HB := n1_; clear n0_ n1_; (try clear hb); (try clear hb2); (try clear hk); (try clear hi)))
              go_ret
              exact ⟨by first | rfl | (simp [errW_none, errW_some] <;> rfl) | (simp [*, errW_none, errW_some] <;> rfl), by repeat (first | (with_reducible first | exact HB.out | apply below_alloc | apply pw_below_drewN | apply below_drew1 | refine below_set ?_ GE184.out) | exact HB.out)⟩
end Go.Proofs.Ytiiocpeeobjlgaa.P
end
section
namespace Go.Proofs.Ytiiocpeeobjlgaa.P
open Go.RowKit Go.Proofs.YtiiocpeeobjlgaaW.PrintWords Go.Proofs.YtiiocpeeobjlgaaW.PrintLast Go.Proofs.YtiiocpeeobjlgaaW.PrintMore
set_option linter.unusedVariables false
set_option linter.unusedSimpArgs false
set_option maxHeartbeats 4000000 in
set_option maxRecDepth 100000 in
theorem scover_no1 (k : Nat) (A0 : Option Addr) (c0 : Nat) (m : List (List Int)) (A1 : Option Addr) (c1 : Nat) (l : List S56) (a : Int) (w : World) (hr0 : Kd.C (Kd.slice 5 (Kd.int .u8)) w A0 m.length m) (hc0 : m.length ≤ c0) (hr1 : Kd.C k56 w A1 l.length l) (hc1 : l.length ≤ c1) (h1 : spec_l3Watched.f k m l = some false) :
    Calls Try.prog 7 #[.agg #[.slice A0 m.length c0], .slice A1 l.length c1, .int .i64 a] w fun e w' => ∃ v0_ : Value, e = .returned (.tuple #[v0_, .bool false]) ∧ Kd.R kA2 53 w' w.heap.size (fun _ => True) v0_ [] ∧ Below w.heap.size w w' := by
  have hu := Try.underlying31
  have hu2 := Try.underlying53
  have HR0 := Aside0.mk hr0
  have HC0 := Aside0.mk hc0
  have HR1 := Aside0.mk hr1
  have HC1 := Aside0.mk hc1
  have HA1 := Aside0.mk h1
  clear hr0 hc0 hr1 hc1 h1
  have HB := Aside0.mk (Below.refl w.heap.size w)
  obtain ⟨g, hg_⟩ : ∃ g : List Int, g = [] := ⟨_, rfl⟩
  clear hg_
  go_enter Try.func7, Try.ntmps7
  go_wp2_with (first | ((with_reducible refine gate_dst (N := 3) rfl ?_); refine box_event ?hg (N := 3) ?hd (cs := #[.slice A0 m.length c0]) (t := 31) ?hr ?_; (case hd => rfl); (case hg => rfl); (case hr => first | (go_simp; done) | (go_simp; rfl)); intro g3 hg w3 hbox hb; have n0_ := Aside0.mk (below_step HB.out hb); have n1_ := Aside0.mk hbox; clear HB; have HB := n0_; have BK3 := n1_; clear n0_ n1_ hb hbox hg; have hc3 : w3.cell? ⟨g3, 0, none⟩ = some (.slice A0 m.length c0) := (blk_cell BK3.out 0).trans rfl; have hf3 := blk_frozen BK3.out 0) | ((with_reducible refine gate_dst (N := 11) rfl ?_); refine Kd.R_lit kA2 _ 53 ?hg (N := 11) ?hd (xs := ([] : List (Int × Int))) (inner := []) (ok := fun _ => True) (okp := fun _ => True) ?hr ?hp (fun _ hk => hk) trivial (Below.refl _ _) (Nat.le_refl _) (by simp) ?_; (case hd => rfl); (case hg => rfl); (case hr => first | (go_simp; done) | (go_simp; rfl)); (case hp => exact (Reps.none _ _)); intro v11 w11 ho hb hg_ hnew_; clear hg_ hnew_; have n0_ := Aside0.mk (show Kd.R kA2 53 w11 w.heap.size (fun _ => True) v11 (covN g 0) from Kd.R_lower ho (below_size (by repeat (first | (with_reducible first | exact HB.out | apply below_alloc | apply pw_below_drewN | apply below_drew1) | exact HB.out)))); have n1_ := Aside0.mk (below_step (by repeat (first | (with_reducible first | exact HB.out | apply below_alloc | apply pw_below_drewN | apply below_drew1) | exact HB.out)) hb); have n2_ := Aside0.mk (blk_below (g := g3) (o := .cells #[.slice A0 m.length c0] 31 (0, 0)) (by (with_reducible repeat (first | refine blk_drewN ?_ _ | refine blk_drew ?_ | refine blk_alloc ?_ _)); exact BK3.out) hb); clear HB BK3 hc3 hf3; have HO := n0_; have HB := n1_; have BK3 := n2_; clear n0_ n1_ n2_ hb ho; have hc11 : w11.cell? ⟨g3, 0, none⟩ = some (.slice A0 m.length c0) := (blk_cell BK3.out 0).trans rfl; have hf11 := blk_frozen BK3.out 0) | (go_at_call 24; (with_reducible refine (spec_l3Watched.calls k _ _ m _ _ l false _ ?s1 ?s2 ?s3 ?s4 HA1.out).mono ?_); (case s1 => exact Kd.C_below HR0.out (by repeat (first | (with_reducible first | exact HB.out | apply below_alloc | apply pw_below_drewN | apply below_drew1) | exact HB.out))); (case s2 => exact HC0.out); (case s3 => exact Kd.C_below HR1.out (by repeat (first | (with_reducible first | exact HB.out | apply below_alloc | apply pw_below_drewN | apply below_drew1) | exact HB.out))); (case s4 => exact HC1.out); rintro e wa ⟨rfl, hb⟩; have n0_ := Aside0.mk (Kd.R_below (by (with_reducible repeat (first | apply Kd.R_alloc | apply Kd.R_drewN | apply Kd.R_drew)); exact HO.out) hb); have n1_ := Aside0.mk (blk_below (g := g3) (o := .cells #[.slice A0 m.length c0] 31 (0, 0)) (by (with_reducible repeat (first | refine blk_drewN ?_ _ | refine blk_drew ?_ | refine blk_alloc ?_ _)); exact BK3.out) hb); have n2_ := Aside0.mk (below_step (by repeat (first | (with_reducible first | exact HB.out | apply below_alloc | apply pw_below_drewN | apply below_drew1) | exact HB.out)) hb); clear HO BK3 HB; have HO := n0_; have BK3 := n1_; have HB := n2_; clear n0_ n1_ n2_ hb; have hca : wa.cell? ⟨g3, 0, none⟩ = some (.slice A0 m.length c0) := (blk_cell BK3.out 0).trans rfl; have hfa := blk_frozen BK3.out 0))
  go_ret2
  exact ⟨_, rfl, by (with_reducible repeat (first | apply Kd.R_alloc | apply Kd.R_drewN | apply Kd.R_drew)); exact HO.out, by repeat (first | (with_reducible first | exact HB.out | apply below_alloc | apply pw_below_drewN | apply below_drew1) | exact HB.out)⟩
set_option maxHeartbeats 4000000 in
set_option maxRecDepth 100000 in
theorem scover_no2 (k : Nat) (A0 : Option Addr) (c0 : Nat) (m : List (List Int)) (A1 : Option Addr) (c1 : Nat) (l : List S56) (a : Int) (w : World) (hr0 : Kd.C (Kd.slice 5 (Kd.int .u8)) w A0 m.length m) (hc0 : m.length ≤ c0) (hr1 : Kd.C k56 w A1 l.length l) (hc1 : l.length ≤ c1) (h1 : spec_l3Watched.f k m l = some true) (h2 : spec_l1In.f a 0 (wrap64 ((m.length : Int) - 1)) = some false) :
    Calls Try.prog 7 #[.agg #[.slice A0 m.length c0], .slice A1 l.length c1, .int .i64 a] w fun e w' => ∃ v0_ : Value, e = .returned (.tuple #[v0_, .bool false]) ∧ Kd.R kA2 53 w' w.heap.size (fun _ => True) v0_ [] ∧ Below w.heap.size w w' := by
  have hu := Try.underlying31
  have hu2 := Try.underlying53
  have HR0 := Aside0.mk hr0
  have HC0 := Aside0.mk hc0
  have HR1 := Aside0.mk hr1
  have HC1 := Aside0.mk hc1
  have HA1 := Aside0.mk h1
  clear hr0 hc0 hr1 hc1 h1
  have HB := Aside0.mk (Below.refl w.heap.size w)
  have HA2 := Aside0.mk h2
  clear h2
  obtain ⟨g, hg_⟩ : ∃ g : List Int, g = [] := ⟨_, rfl⟩
  clear hg_
  go_enter Try.func7, Try.ntmps7
  go_wp2_with (first | ((with_reducible refine gate_dst (N := 3) rfl ?_); refine box_event ?hg (N := 3) ?hd (cs := #[.slice A0 m.length c0]) (t := 31) ?hr ?_; (case hd => rfl); (case hg => rfl); (case hr => first | (go_simp; done) | (go_simp; rfl)); intro g3 hg w3 hbox hb; have n0_ := Aside0.mk (below_step HB.out hb); have n1_ := Aside0.mk hbox; clear HB; have HB := n0_; have BK3 := n1_; clear n0_ n1_ hb hbox hg; have hc3 : w3.cell? ⟨g3, 0, none⟩ = some (.slice A0 m.length c0) := (blk_cell BK3.out 0).trans rfl; have hf3 := blk_frozen BK3.out 0) | ((with_reducible refine gate_dst (N := 11) rfl ?_); refine Kd.R_lit kA2 _ 53 ?hg (N := 11) ?hd (xs := ([] : List (Int × Int))) (inner := []) (ok := fun _ => True) (okp := fun _ => True) ?hr ?hp (fun _ hk => hk) trivial (Below.refl _ _) (Nat.le_refl _) (by simp) ?_; (case hd => rfl); (case hg => rfl); (case hr => first | (go_simp; done) | (go_simp; rfl)); (case hp => exact (Reps.none _ _)); intro v11 w11 ho hb hg_ hnew_; clear hg_ hnew_; have n0_ := Aside0.mk (show Kd.R kA2 53 w11 w.heap.size (fun _ => True) v11 (covN g 0) from Kd.R_lower ho (below_size (by repeat (first | (with_reducible first | exact HB.out | apply below_alloc | apply pw_below_drewN | apply below_drew1) | exact HB.out)))); have n1_ := Aside0.mk (below_step (by repeat (first | (with_reducible first | exact HB.out | apply below_alloc | apply pw_below_drewN | apply below_drew1) | exact HB.out)) hb); have n2_ := Aside0.mk (blk_below (g := g3) (o := .cells #[.slice A0 m.length c0] 31 (0, 0)) (by (with_reducible repeat (first | refine blk_drewN ?_ _ | refine blk_drew ?_ | refine blk_alloc ?_ _)); exact BK3.out) hb); clear HB BK3 hc3 hf3; have HO := n0_; have HB := n1_; have BK3 := n2_; clear n0_ n1_ n2_ hb ho; have hc11 : w11.cell? ⟨g3, 0, none⟩ = some (.slice A0 m.length c0) := (blk_cell BK3.out 0).trans rfl; have hf11 := blk_frozen BK3.out 0) | (go_at_call 24; (with_reducible refine (spec_l3Watched.calls k _ _ m _ _ l true _ ?s1 ?s2 ?s3 ?s4 HA1.out).mono ?_); (case s1 => exact Kd.C_below HR0.out (by repeat (first | (with_reducible first | exact HB.out | apply below_alloc | apply pw_below_drewN | apply below_drew1) | exact HB.out))); (case s2 => exact HC0.out); (case s3 => exact Kd.C_below HR1.out (by repeat (first | (with_reducible first | exact HB.out | apply below_alloc | apply pw_below_drewN | apply below_drew1) | exact HB.out))); (case s4 => exact HC1.out); rintro e wa ⟨rfl, hb⟩; have n0_ := Aside0.mk (Kd.R_below (by (with_reducible repeat (first | apply Kd.R_alloc | apply Kd.R_drewN | apply Kd.R_drew)); exact HO.out) hb); have n1_ := Aside0.mk (blk_below (g := g3) (o := .cells #[.slice A0 m.length c0] 31 (0, 0)) (by (with_reducible repeat (first | refine blk_drewN ?_ _ | refine blk_drew ?_ | refine blk_alloc ?_ _)); exact BK3.out) hb); have n2_ := Aside0.mk (below_step (by repeat (first | (with_reducible first | exact HB.out | apply below_alloc | apply pw_below_drewN | apply below_drew1) | exact HB.out)) hb); clear HO BK3 HB; have HO := n0_; have BK3 := n1_; have HB := n2_; clear n0_ n1_ n2_ hb; have hca : wa.cell? ⟨g3, 0, none⟩ = some (.slice A0 m.length c0) := (blk_cell BK3.out 0).trans rfl; have hfa := blk_frozen BK3.out 0) | (go_at_call 25; (with_reducible refine (spec_l1In.calls _ _ _ false _ HA2.out).mono ?_); rintro e w2 ⟨rfl, ⟨m2, rfl⟩⟩))
  go_ret2
  exact ⟨_, rfl, by (with_reducible repeat (first | apply Kd.R_alloc | apply Kd.R_drewN | apply Kd.R_drew)); exact HO.out, by repeat (first | (with_reducible first | exact HB.out | apply below_alloc | apply pw_below_drewN | apply below_drew1) | exact HB.out)⟩
set_option maxHeartbeats 8000000 in
set_option maxRecDepth 100000 in
theorem scover_yes (k : Nat) (A0 : Option Addr) (c0 : Nat) (m : List (List Int)) (A1 : Option Addr) (c1 : Nat) (l : List S56) (a : Int) (g : List Int) (w : World) (hr0 : Kd.C (Kd.slice 5 (Kd.int .u8)) w A0 m.length m) (hc0 : m.length ≤ c0) (hr1 : Kd.C k56 w A1 l.length l) (hc1 : l.length ≤ c1) (h1 : spec_l3Watched.f k m l = some true) (h2 : spec_l1In.f a 0 (wrap64 ((m.length : Int) - 1)) = some true) (h3 : spec_l3Counts.f k m l a = some g) (hg1 : g.length ≤ 1048576) :
    Calls Try.prog 7 #[.agg #[.slice A0 m.length c0], .slice A1 l.length c1, .int .i64 a] w fun e w' => ∃ v0_ : Value, e = .returned (.tuple #[v0_, .bool true]) ∧ Kd.R kA2 53 w' w.heap.size (fun _ => True) v0_ (covN g g.length) ∧ Below w.heap.size w w' := by
  have hu := Try.underlying31
  have hu2 := Try.underlying53
  have HR0 := Aside0.mk hr0
  have HC0 := Aside0.mk hc0
  have HR1 := Aside0.mk hr1
  have HC1 := Aside0.mk hc1
  have HA1 := Aside0.mk h1
  have HM := Aside0.mk hg1
  clear hr0 hc0 hr1 hc1 h1 hg1
  have HB := Aside0.mk (Below.refl w.heap.size w)
  have HA2 := Aside0.mk h2
  have HA3 := Aside0.mk h3
  clear h2 h3
  go_enter Try.func7, Try.ntmps7
  go_wp2_with (first | ((with_reducible refine gate_dst (N := 3) rfl ?_); refine box_event ?hg (N := 3) ?hd (cs := #[.slice A0 m.length c0]) (t := 31) ?hr ?_; (case hd => rfl); (case hg => rfl); (case hr => first | (go_simp; done) | (go_simp; rfl)); intro g3 hg w3 hbox hb; have n0_ := Aside0.mk (below_step HB.out hb); have n1_ := Aside0.mk hbox; clear HB; have HB := n0_; have BK3 := n1_; clear n0_ n1_ hb hbox hg; have hc3 : w3.cell? ⟨g3, 0, none⟩ = some (.slice A0 m.length c0) := (blk_cell BK3.out 0).trans rfl; have hf3 := blk_frozen BK3.out 0) | ((with_reducible refine gate_dst (N := 11) rfl ?_); refine Kd.R_lit kA2 _ 53 ?hg (N := 11) ?hd (xs := ([] : List (Int × Int))) (inner := []) (ok := fun _ => True) (okp := fun _ => True) ?hr ?hp (fun _ hk => hk) trivial (Below.refl _ _) (Nat.le_refl _) (by simp) ?_; (case hd => rfl); (case hg => rfl); (case hr => first | (go_simp; done) | (go_simp; rfl)); (case hp => exact (Reps.none _ _)); intro v11 w11 ho hb hg_ hnew_; clear hg_ hnew_; have n0_ := Aside0.mk (show Kd.R kA2 53 w11 w.heap.size (fun _ => True) v11 (covN g 0) from Kd.R_lower ho (below_size (by repeat (first | (with_reducible first | exact HB.out | apply below_alloc | apply pw_below_drewN | apply below_drew1) | exact HB.out)))); have n1_ := Aside0.mk (below_step (by repeat (first | (with_reducible first | exact HB.out | apply below_alloc | apply pw_below_drewN | apply below_drew1) | exact HB.out)) hb); have n2_ := Aside0.mk (blk_below (g := g3) (o := .cells #[.slice A0 m.length c0] 31 (0, 0)) (by (with_reducible repeat (first | refine blk_drewN ?_ _ | refine blk_drew ?_ | refine blk_alloc ?_ _)); exact BK3.out) hb); clear HB BK3 hc3 hf3; have HO := n0_; have HB := n1_; have BK3 := n2_; clear n0_ n1_ n2_ hb ho; have hc11 : w11.cell? ⟨g3, 0, none⟩ = some (.slice A0 m.length c0) := (blk_cell BK3.out 0).trans rfl; have hf11 := blk_frozen BK3.out 0) | (go_at_call 24; (with_reducible refine (spec_l3Watched.calls k _ _ m _ _ l true _ ?s1 ?s2 ?s3 ?s4 HA1.out).mono ?_); (case s1 => exact Kd.C_below HR0.out (by repeat (first | (with_reducible first | exact HB.out | apply below_alloc | apply pw_below_drewN | apply below_drew1) | exact HB.out))); (case s2 => exact HC0.out); (case s3 => exact Kd.C_below HR1.out (by repeat (first | (with_reducible first | exact HB.out | apply below_alloc | apply pw_below_drewN | apply below_drew1) | exact HB.out))); (case s4 => exact HC1.out); rintro e wa ⟨rfl, hb⟩; have n0_ := Aside0.mk (Kd.R_below (by (with_reducible repeat (first | apply Kd.R_alloc | apply Kd.R_drewN | apply Kd.R_drew)); exact HO.out) hb); have n1_ := Aside0.mk (blk_below (g := g3) (o := .cells #[.slice A0 m.length c0] 31 (0, 0)) (by (with_reducible repeat (first | refine blk_drewN ?_ _ | refine blk_drew ?_ | refine blk_alloc ?_ _)); exact BK3.out) hb); have n2_ := Aside0.mk (below_step (by repeat (first | (with_reducible first | exact HB.out | apply below_alloc | apply pw_below_drewN | apply below_drew1) | exact HB.out)) hb); clear HO BK3 HB; have HO := n0_; have BK3 := n1_; have HB := n2_; clear n0_ n1_ n2_ hb; have hca : wa.cell? ⟨g3, 0, none⟩ = some (.slice A0 m.length c0) := (blk_cell BK3.out 0).trans rfl; have hfa := blk_frozen BK3.out 0) | (go_at_call 25; (with_reducible refine (spec_l1In.calls _ _ _ true _ HA2.out).mono ?_); rintro e w2 ⟨rfl, ⟨m2, rfl⟩⟩) | (go_at_call 26; (with_reducible refine (spec_l3Counts.calls k _ _ m _ _ l a g _ ?s1 ?s2 ?s3 ?s4 HA3.out).mono ?_); (case s1 => exact Kd.C_below HR0.out (by repeat (first | (with_reducible first | exact HB.out | apply below_alloc | apply pw_below_drewN | apply below_drew1) | exact HB.out))); (case s2 => exact HC0.out); (case s3 => exact Kd.C_below HR1.out (by repeat (first | (with_reducible first | exact HB.out | apply below_alloc | apply pw_below_drewN | apply below_drew1) | exact HB.out))); (case s4 => exact HC1.out); rintro e wc ⟨vc, rfl, hoc, hb⟩; obtain ⟨n2, hn2⟩ : ∃ n2, n2 = wc.heap.size := ⟨_, rfl⟩; obtain ⟨n1, hn1, hn1b⟩ : ∃ n1, (∀ k : Nat, k < n1 → ¬ (n1 ≤ k ∧ k < n2)) ∧ Kd.R (Kd.int .i64) 3 wc n1 (fun _ => True) vc g ∧ n1 ≤ wc.heap.size ∧ w.heap.size ≤ n1 ∧ Kd.R kA2 53 wc w.heap.size (fun k_ => k_ < n1) v11 (covN g 0) := ⟨_, fun k h1 h2 => absurd (Nat.lt_of_lt_of_le h1 h2.1) (Nat.lt_irrefl _), hoc, hb.size, below_size (by repeat (first | (with_reducible first | exact HB.out | apply below_alloc | apply pw_below_drewN | apply below_drew1) | exact HB.out)), Kd.R_mono (Kd.R_below (Kd.R_mono (Kd.R_bound (by (with_reducible repeat (first | apply Kd.R_alloc | apply Kd.R_drewN | apply Kd.R_drew)); exact HO.out)) (ok' := fun k_ => k_ < _) (fun k_ hk_ => hk_.2.2.1)) hb) (fun k_ hk_ => hk_)⟩; have n0_ := Aside0.mk (below_step (by repeat (first | (with_reducible first | exact HB.out | apply below_alloc | apply pw_below_drewN | apply below_drew1) | exact HB.out)) hb); have n1_ := Aside0.mk (show Kd.R (Kd.int .i64) 3 wc w.heap.size (fun k => n1 ≤ k ∧ k < n2) vc g from Kd.R_mono (Kd.R_lower (Kd.R_bound hn1b.1) hn1b.2.2.1) (fun k hk => ⟨hk.2.1, by rw [hn2]; exact hk.2.2.1⟩)); have n2_ := Aside0.mk (Nat.le_of_eq hn2); have n3_ := Aside0.mk (show Kd.R kA2 53 wc w.heap.size (fun k_ => ¬ (n1 ≤ k_ ∧ k_ < n2)) v11 (covN g 0) from Kd.R_mono hn1b.2.2.2 (fun k_ hk_ => hn1 k_ hk_)); clear HB HO; have HB := n0_; have HG := n1_; have HZ := n2_; have HO := n3_; clear n0_ n1_ n2_ n3_ hb hoc hn2 hn1 hn1b; obtain ⟨Ac, cc, ec⟩ := Kd.R_slice HG.out; subst ec))
  have hn_ := HM.out
  go_loopg [8, 10] g.length (fun kq s8 s10 wr => ∃ kk : Nat, kk ≤ g.length ∧ g.length - kk ≤ kq ∧ s10 = .int .i64 (kk : Int) ∧ Aside0 (Kd.R kA2 53 wr w.heap.size (fun k_ => ¬ (n1 ≤ k_ ∧ k_ < n2)) s8 (covN g kk)) ∧ Aside0 (Kd.R (Kd.int .i64) 3 wr w.heap.size (fun k_ => n1 ≤ k_ ∧ k_ < n2) (.slice Ac g.length cc) g) ∧ Aside0 (Below w.heap.size w wr) ∧ Aside0 (n2 ≤ wr.heap.size))
  case atStart => exact ⟨0, by omega, by omega, rfl, ⟨by (with_reducible repeat (first | apply Kd.R_alloc | apply Kd.R_drewN | apply Kd.R_drew)); exact HO.out⟩, ⟨by (with_reducible repeat (first | apply Kd.R_alloc | apply Kd.R_drewN | apply Kd.R_drew)); exact HG.out⟩, ⟨by repeat (first | (with_reducible first | exact HB.out | apply below_alloc | apply pw_below_drewN | apply below_drew1) | exact HB.out)⟩, ⟨by repeat (first | exact HZ.out | (with_reducible first | apply sz_alloc | apply sz_drewN | apply sz_drew | apply sz_set))⟩⟩
  case round =>
    clear HO HG HB HZ
    obtain ⟨kk, hkk, hkq, rfl, HO, HG, HB, HZ⟩ := hrel
    have HLg := Aside0.mk (covN_len g kk)
    by_cases hlt : kk < g.length
    · have hiz : (kk : Int) < (g.length : Int) := by omega
      have h0z : 0 ≤ (kk : Int) := by omega
      have c1b := decide_eq_true hiz
      have c2b := decide_eq_true h0z
      obtain ⟨adc, eadc, hx0⟩ := Kd.at_int (Kd.R_reads' HG.out).2.2 (kk : Int) h0z (by omega)
      cases eadc
      simp only [Int.toNat_natCast] at hx0
      have erd : rd g (kk : Int) = g.getD kk 0 := rfl
      rw [erd] at hx0
      clear erd
      obtain ⟨y, hy⟩ : ∃ y, y = g.getD kk 0 := ⟨_, rfl⟩
      rw [← hy] at hx0
      have HY := Aside0.mk hy
      clear hy
      by_cases hz : y = 0
      · have c3b : (y == 0) = true := beq_iff_eq.mpr hz
        have c3c : (y != 0) = false := bne_eq_false_iff_eq.mpr hz
        have E1 := Aside0.mk (covN_zero (c := g) (n := kk) (by rw [← HY.out]; exact hz))
        subst hz
        replace hiz := eq_true hiz
        replace h0z := eq_true h0z
        go_wp2
        go_roundg (g.length - (kk + 1))
        case measure => omega
        case rel => exact ⟨kk + 1, by omega, by omega, by go_num, ⟨by rw [E1.out]; (with_reducible repeat (first | apply Kd.R_alloc | apply Kd.R_drewN | apply Kd.R_drew)); exact HO.out⟩, ⟨by (with_reducible repeat (first | apply Kd.R_alloc | apply Kd.R_drewN | apply Kd.R_drew)); exact HG.out⟩, ⟨by repeat (first | (with_reducible first | exact HB.out | apply below_alloc | apply pw_below_drewN | apply below_drew1) | exact HB.out)⟩, ⟨by repeat (first | exact HZ.out | (with_reducible first | apply sz_alloc | apply sz_drewN | apply sz_drew | apply sz_set))⟩⟩
      · have c3b : (y == 0) = false := beq_eq_false_iff_ne.mpr hz
        have c3c : (y != 0) = true := bne_iff_ne.mpr hz
        have HYZ := Aside0.mk (show g.getD kk 0 ≠ 0 by rw [← HY.out]; exact hz)
        by_cases hp : 0 < kk
        · have c4b : decide ((kk : Int) > 0) = true := decide_eq_true (by omega)
          have c4c : decide (0 < (kk : Int)) = true := decide_eq_true (by omega)
          have c4d : decide (0 ≤ (kk : Int) - 1) = true := decide_eq_true (by omega)
          have c4e : decide ((kk : Int) - 1 < (g.length : Int)) = true := decide_eq_true (by omega)
          have e_1 : ((kk : Int) - 1).toNat = kk - 1 := by omega
          obtain ⟨adp, eadp, hp0⟩ := Kd.at_int (Kd.R_reads' HG.out).2.2 ((kk : Int) - 1) (by omega) (by omega)
          cases eadp
          have erd : rd g ((kk : Int) - 1) = g.getD (kk - 1) 0 := by unfold rd; rw [e_1]
          rw [erd, e_1] at hp0
          clear erd e_1
          obtain ⟨yp, hyp⟩ : ∃ y, y = g.getD (kk - 1) 0 := ⟨_, rfl⟩
          rw [← hyp] at hp0
          have HYP := Aside0.mk hyp
          clear hyp
          have ew : wrap64 ((kk : Int) - 1) = (kk : Int) - 1 := wrap_in (by omega) (by omega)
          have i0 : (0 ≤ (kk : Int) - 1) = True := eq_true (by omega)
          have i1 : ((kk : Int) - 1 < (g.length : Int)) = True := eq_true (by omega)
          by_cases hq : 0 < yp
          · have c5b : decide (yp > 0) = true := decide_eq_true hq
            have c5c : decide (0 < yp) = true := decide_eq_true hq
            have E1 := Aside0.mk (covN_set (c := g) (n := kk) HYZ.out hp (by rw [← HYP.out]; exact hq))
            have hne : 0 < (covN g kk).length := by
              obtain ⟨m, rfl⟩ : ∃ m, kk = m + 1 := ⟨kk - 1, by omega⟩
              exact covN_ne g m (by have h_ := HYP.out; simp only [Nat.add_sub_cancel] at h_; omega)
            obtain ⟨gd, cap, eo, hgd, hgl, _⟩ := Kd.R_form HO.out hne
            subst eo
            have hol2 : (covN g kk).length ≤ 1048576 := by have := HLg.out; have := HM.out; omega
            have hol1 : 0 < (covN g kk).length := hne
            have GE := Aside0.mk hgd
            have GL := Aside0.mk hgl
            clear hgd hgl hne
            have d0z : 0 ≤ ((covN g kk).length : Int) - 1 := by omega
            have d1z : ((covN g kk).length : Int) - 1 < ((covN g kk).length : Int) := by omega
            obtain ⟨ce, hcl, hMe, hcc, hfr⟩ := Kd.R_elem HO.out (0, 0) (((covN g kk).length : Int) - 1) d0z d1z
            obtain rfl := kA2_openM hMe
            have et : (((covN g kk).length : Int) - 1).toNat = (covN g kk).length - 1 := by omega
            have hc0 := hcc 0 _ rfl
            have hc1 := hcc 1 _ rfl
            have hf0 := hfr 0
            have hf1 := hfr 1
            have HP := Kd.R_seg HO.out (((covN g kk).length : Int) - 1) d0z d1z (seg := [.int .i64 (kk : Int)]) (j := 1) hcl hcc (show 2 ≤ 2 from by decide) (x' := ((rd_A2 (covN g kk) (((covN g kk).length : Int) - 1)).1, (kk : Int))) (kA2_mkM _ _ _ ((rd_A2 (covN g kk) (((covN g kk).length : Int) - 1)).1, (kk : Int))) (fun _ hk => hk)
            rw [et] at HP
            replace HP := Aside0.mk HP
            have HGd := Aside0.mk (show ∀ k, (n1 ≤ k ∧ k < n2) → k ≠ gd from fun k hk e => by subst e; exact HO.out.1 k rfl hk)
            simp only [show (kA2).sz = 2 from rfl, et, Nat.add_zero] at hc0 hc1 hf0 hf1
            clear hcl hcc hfr hMe
            have ew2 : wrap64 (((covN g kk).length : Int) - 1) = ((covN g kk).length : Int) - 1 := wrap_in (by omega) (by omega)
            replace d0z := eq_true d0z
            replace d1z := eq_true d1z
            replace hiz := eq_true hiz
            replace h0z := eq_true h0z
            go_wp2
            go_roundg (g.length - (kk + 1))
            case measure => omega
            case rel => exact ⟨kk + 1, by omega, by omega, by go_num, ⟨by rw [E1.out]; rw [show (covN g kk).length - 1 = (((covN g kk).length : Int) - 1).toNat by omega]; (with_reducible repeat (first | apply Kd.R_alloc | apply Kd.R_drewN | apply Kd.R_drew)); first | exact HP.out.1 | (rw [et]; exact HP.out.1)⟩, ⟨by (with_reducible repeat (first | apply Kd.R_alloc | apply Kd.R_drewN | apply Kd.R_drew)); exact Kd.R_far (p := ⟨gd, _, none⟩) HG.out HGd.out _⟩, ⟨by first | exact below_set HB.out GE.out | (apply pw_below_drewN; exact below_set HB.out GE.out)⟩, ⟨sz_set HZ.out⟩⟩
          · have c5b : decide (yp > 0) = false := decide_eq_false hq
            have c5c : decide (0 < yp) = false := decide_eq_false hq
            have E1 := Aside0.mk (covN_app (c := g) (n := kk) HYZ.out (fun h => hq (by rw [HYP.out]; exact h.2)))
            replace hiz := eq_true hiz
            replace h0z := eq_true h0z
            go_wp2_with ((with_reducible refine gate_builtin (b := .append) (xs := #[.tmp 58, .tmp 62]) rfl ?_); at_builtin; refine Kd.R_append kA2 (w0 := w) w.heap.size rfl (.tmp 58) (.tmp 62) 28 53 (.agg #[(.int .i64 0), (.int .i64 0)]) 16 rfl Try.underlying28 infoA2 rfl (by decide) (by omega) u8 (covN g kk) ((kk : Int), (kk : Int)) [.int .i64 (kk : Int), .int .i64 (kk : Int)] (fun k_ => ¬ (n1 ≤ k_ ∧ k_ < n2)) (fun _ => False) rfl rfl ?aP (fun _ hk => hk.elim) ?aF ?aO ?aB ?aS ?aL ?_; (case aP => exact kA2_mkM _ _ _ ((kk : Int), (kk : Int))); (case aF => exact (fun k_ hk h_ => absurd (Nat.lt_of_lt_of_le h_.2 (Nat.le_trans HZ.out hk)) (Nat.lt_irrefl _))); (case aO => exact HO.out); (case aB => exact (by repeat (first | (with_reducible first | exact HB.out | apply below_alloc | apply pw_below_drewN | apply below_drew1) | exact HB.out))); (case aS => exact (below_size (by repeat (first | (with_reducible first | exact HB.out | apply below_alloc | apply pw_below_drewN | apply below_drew1) | exact HB.out)))); (case aL => have := HLg.out; have := HM.out; omega); intro v35 w35 ho hb hg hat; rw [← E1.out] at ho; have n0_ := Aside0.mk ho; have n1_ := Aside0.mk hb; have n2_ := Aside0.mk (Kd.R_grown HG.out hg (fun k hk e => HO.out.1 k e.symm hk)); have n3_ := Aside0.mk (Nat.le_trans HZ.out hg.size); clear HO HB HG HZ; have HO := n0_; have HB := n1_; have HG := n2_; have HZ := n3_; clear n0_ n1_ n2_ n3_ ho hb hg hat)
            go_roundg (g.length - (kk + 1))
            case measure => omega
            case rel => exact ⟨kk + 1, by omega, by omega, by go_num, ⟨by (with_reducible repeat (first | apply Kd.R_alloc | apply Kd.R_drewN | apply Kd.R_drew)); exact HO.out⟩, ⟨by (with_reducible repeat (first | apply Kd.R_alloc | apply Kd.R_drewN | apply Kd.R_drew)); exact HG.out⟩, ⟨by repeat (first | (with_reducible first | exact HB.out | apply below_alloc | apply pw_below_drewN | apply below_drew1) | exact HB.out)⟩, ⟨by repeat (first | exact HZ.out | (with_reducible first | apply sz_alloc | apply sz_drewN | apply sz_drew | apply sz_set))⟩⟩
        · have c4b : decide ((kk : Int) > 0) = false := decide_eq_false (by omega)
          have c4c : decide (0 < (kk : Int)) = false := decide_eq_false (by omega)
          have E1 := Aside0.mk (covN_app (c := g) (n := kk) HYZ.out (fun h => hp h.1))
          replace hiz := eq_true hiz
          replace h0z := eq_true h0z
          go_wp2_with ((with_reducible refine gate_builtin (b := .append) (xs := #[.tmp 58, .tmp 62]) rfl ?_); at_builtin; refine Kd.R_append kA2 (w0 := w) w.heap.size rfl (.tmp 58) (.tmp 62) 28 53 (.agg #[(.int .i64 0), (.int .i64 0)]) 16 rfl Try.underlying28 infoA2 rfl (by decide) (by omega) u8 (covN g kk) ((kk : Int), (kk : Int)) [.int .i64 (kk : Int), .int .i64 (kk : Int)] (fun k_ => ¬ (n1 ≤ k_ ∧ k_ < n2)) (fun _ => False) rfl rfl ?aP (fun _ hk => hk.elim) ?aF ?aO ?aB ?aS ?aL ?_; (case aP => exact kA2_mkM _ _ _ ((kk : Int), (kk : Int))); (case aF => exact (fun k_ hk h_ => absurd (Nat.lt_of_lt_of_le h_.2 (Nat.le_trans HZ.out hk)) (Nat.lt_irrefl _))); (case aO => exact HO.out); (case aB => exact (by repeat (first | (with_reducible first | exact HB.out | apply below_alloc | apply pw_below_drewN | apply below_drew1) | exact HB.out))); (case aS => exact (below_size (by repeat (first | (with_reducible first | exact HB.out | apply below_alloc | apply pw_below_drewN | apply below_drew1) | exact HB.out)))); (case aL => have := HLg.out; have := HM.out; omega); intro v35 w35 ho hb hg hat; rw [← E1.out] at ho; have n0_ := Aside0.mk ho; have n1_ := Aside0.mk hb; have n2_ := Aside0.mk (Kd.R_grown HG.out hg (fun k hk e => HO.out.1 k e.symm hk)); have n3_ := Aside0.mk (Nat.le_trans HZ.out hg.size); clear HO HB HG HZ; have HO := n0_; have HB := n1_; have HG := n2_; have HZ := n3_; clear n0_ n1_ n2_ n3_ ho hb hg hat)
          go_roundg (g.length - (kk + 1))
          case measure => omega
          case rel => exact ⟨kk + 1, by omega, by omega, by go_num, ⟨by (with_reducible repeat (first | apply Kd.R_alloc | apply Kd.R_drewN | apply Kd.R_drew)); exact HO.out⟩, ⟨by (with_reducible repeat (first | apply Kd.R_alloc | apply Kd.R_drewN | apply Kd.R_drew)); exact HG.out⟩, ⟨by repeat (first | (with_reducible first | exact HB.out | apply below_alloc | apply pw_below_drewN | apply below_drew1) | exact HB.out)⟩, ⟨by repeat (first | exact HZ.out | (with_reducible first | apply sz_alloc | apply sz_drewN | apply sz_drew | apply sz_set))⟩⟩
    · obtain ekk : kk = g.length := by omega
      subst ekk
      have hiz : ¬ (g.length : Int) < (g.length : Int) := by omega
      have c1b : decide ((g.length : Int) < (g.length : Int)) = false := decide_eq_false hiz
      go_wp2
      go_ret2
      exact ⟨_, rfl, by (with_reducible repeat (first | apply Kd.R_alloc | apply Kd.R_drewN | apply Kd.R_drew)); exact Kd.R_mono HO.out (fun _ _ => trivial), by repeat (first | (with_reducible first | exact HB.out | apply below_alloc | apply pw_below_drewN | apply below_drew1) | exact HB.out)⟩
def spec_PartCover.f (k : Nat) (m : List (List Int)) (l : List S56) (a : Int) : Option (List (Int × Int) × Bool) :=
  (spec_l3Watched.f k m l).bind fun t => if t = true then ((spec_l1In.f a 0 (wrap64 ((m.length : Int) - 1))).bind fun h => if h = true then ((spec_l3Counts.f k m l a).bind fun g => if g.length ≤ 1048576 then some (covN g g.length, true) else none) else some ([], false)) else some ([], false)
theorem spec_PartCover.calls (k : Nat) (A0 : Option Addr) (c0 : Nat) (m : List (List Int)) (A1 : Option Addr) (c1 : Nat) (l : List S56) (a : Int) (r1 : List (Int × Int)) (r2 : Bool) (w : World) (hr0 : Kd.C (Kd.slice 5 (Kd.int .u8)) w A0 m.length m) (hc0 : m.length ≤ c0) (hr1 : Kd.C k56 w A1 l.length l) (hc1 : l.length ≤ c1) (h : spec_PartCover.f k m l a = some (r1, r2)) :
    Calls Try.prog 7 #[.agg #[.slice A0 m.length c0], .slice A1 l.length c1, .int .i64 a] w fun e w' => ∃ v0_ : Value, e = .returned (.tuple #[v0_, .bool r2]) ∧ Kd.R kA2 53 w' w.heap.size (fun _ => True) v0_ r1 ∧ Below w.heap.size w w' := by
  unfold spec_PartCover.f at h
  obtain ⟨t, h1, h⟩ := Option.bind_eq_some_iff.mp h
  cases t with
  | false =>
    rw [if_neg (by decide)] at h
    obtain ⟨rfl, rfl⟩ := Prod.mk.inj (Option.some.inj h)
    exact scover_no1 k A0 c0 m A1 c1 l a w hr0 hc0 hr1 hc1 h1
  | true =>
    rw [if_pos rfl] at h
    obtain ⟨t, h2, h⟩ := Option.bind_eq_some_iff.mp h
    cases t with
    | false =>
      rw [if_neg (by decide)] at h
      obtain ⟨rfl, rfl⟩ := Prod.mk.inj (Option.some.inj h)
      exact scover_no2 k A0 c0 m A1 c1 l a w hr0 hc0 hr1 hc1 h1 h2
    | true =>
      rw [if_pos rfl] at h
      obtain ⟨g, h3, h⟩ := Option.bind_eq_some_iff.mp h
      by_cases h4 : g.length ≤ 1048576
      · rw [if_pos h4] at h
        obtain ⟨rfl, rfl⟩ := Prod.mk.inj (Option.some.inj h)
        exact scover_yes k A0 c0 m A1 c1 l a g w hr0 hc0 hr1 hc1 h1 h2 h3 h4
      · rw [if_neg h4] at h; cases h
def impl_PartCover.f (k : Nat) (m : List (List Int)) (l : List S56) (a : Int) : Option (List (Int × Int) × Bool) :=
  (impl_NoticedCounts.f k m l a).bind fun t => if t.2 = true then (if t.1.length ≤ 1048576 then some (covN t.1 t.1.length, true) else none) else some ([], false)
theorem impl_PartCover.calls (k : Nat) (A0 : Option Addr) (c0 : Nat) (m : List (List Int)) (A1 : Option Addr) (c1 : Nat) (l : List S56) (a : Int) (r1 : List (Int × Int)) (r2 : Bool) (w : World) (hr0 : Kd.C (Kd.slice 5 (Kd.int .u8)) w A0 m.length m) (hc0 : m.length ≤ c0) (hr1 : Kd.C k56 w A1 l.length l) (hc1 : l.length ≤ c1) (h : impl_PartCover.f k m l a = some (r1, r2)) :
    Calls Try.prog 10 #[.agg #[.slice A0 m.length c0], .slice A1 l.length c1, .int .i64 a] w fun e w' => ∃ v0_ : Value, e = .returned (.tuple #[v0_, .bool r2]) ∧ Kd.R kA2 53 w' w.heap.size (fun _ => True) v0_ r1 ∧ Below w.heap.size w w' := by
  unfold impl_PartCover.f at h
  obtain ⟨⟨g, t⟩, h1, h⟩ := Option.bind_eq_some_iff.mp h
  cases t with
  | false =>
    dsimp only at h
    rw [if_neg (by decide)] at h
    obtain ⟨rfl, rfl⟩ := Prod.mk.inj (Option.some.inj h)
    exact (cover_no k A0 c0 m A1 c1 l a g w hr0 hc0 hr1 hc1 h1).mono fun e w' ⟨he, hb⟩ => ⟨_, he, Kd.R_nil _ _ _ _ _, hb⟩
  | true =>
    dsimp only at h
    rw [if_pos rfl] at h
    by_cases h4 : g.length ≤ 1048576
    · rw [if_pos h4] at h
      obtain ⟨rfl, rfl⟩ := Prod.mk.inj (Option.some.inj h)
      exact cover_yes k A0 c0 m A1 c1 l a g w hr0 hc0 hr1 hc1 h1 h4
    · rw [if_neg h4] at h; cases h
end Go.Proofs.Ytiiocpeeobjlgaa.P
end
section
namespace Go.Proofs.Ytiiocpeeobjlgaa.P
open Go.RowKit Go.Proofs.YtiiocpeeobjlgaaW.PrintWords Go.Proofs.YtiiocpeeobjlgaaW.PrintLast Go.Proofs.YtiiocpeeobjlgaaW.PrintMore
set_option linter.unusedVariables false
set_option linter.unusedSimpArgs false
def laws_markByteSS.l0 : Nat → List (List Int) → Int → Int → Option (Int × List (List Int))
  | 0, _, _, _ => none
  | k + 1, x0, x1, x5 => if x5 < (x0.length : Int) then (if 0 ≤ x5 then ((laws_markByteS.f k (rd_L1 x0 x5) x1).bind fun t => laws_markByteSS.l0 k (x0.set x5.toNat t.2) t.1 (wrap64 (x5 + 1))) else none) else some (x1, x0)
def laws_markByteSS.f (k : Nat) (l0 : List (List Int)) (a1 : Int) : Option (Int × List (List Int)) := laws_markByteSS.l0 k l0 a1 0
def laws_markMemory.f (k : Nat) (l0 : List (List Int)) (a1 : Int) : Option (Int × List (List Int)) := laws_markByteSS.f k l0 a1
set_option maxHeartbeats 4000000 in
set_option maxRecDepth 100000 in
theorem laws_markByteSS.calls (k : Nat) (P0_ : Nat → Prop) (u : Value) (l0 : List (List Int)) (a1 : Int) (r1 : Int) (r2 : List (List Int)) (w0 w : World) (hB : Below w0.heap.size w0 w) (ho0 : Kd.S (Kd.slice 5 (Kd.int .u8)) 70 w w0.heap.size P0_ u l0) (h : laws_markByteSS.f k l0 a1 = some (r1, r2)) :
    Calls Try.prog 33 #[u, .int .i64 a1] w fun e w' => e = .returned (.int .i64 r1) ∧ Kd.S (Kd.slice 5 (Kd.int .u8)) 70 w' w0.heap.size P0_ u r2 ∧ Below w0.heap.size w0 w' ∧ Kept w w' P0_ := by
  obtain ⟨A, c, rfl⟩ := Kd.R_slice (Kd.S_R ho0)
  have hmax : l0.length ≤ 9223372036854775807 := by
    obtain ⟨A', c', _, _, h3⟩ := Kd.R_reads (Kd.S_R ho0)
    exact Kd.C_max h3
  have HS0 := Aside0.mk ho0
  have HB0 := Aside0.mk hB
  have H' := Aside0.mk h
  obtain ⟨n, hn⟩ : ∃ n, n = l0.length := ⟨_, rfl⟩
  have HN := Aside0.mk hn
  rw [← hn] at hmax ⊢
  clear ho0 hB h hn
  go_enter Try.func33, Try.ntmps33
  go_wp2
  go_loopg [1, 5] k (fun kq v1 v5 wr => ∃ (x1_1 x5_1 : Int) (y : List (List Int)), v1 = .int .i64 x1_1 ∧ v5 = .int .i64 x5_1 ∧ Aside0 (laws_markByteSS.l0 kq y x1_1 x5_1 = some (r1, r2)) ∧ Aside0 (kq ≤ k) ∧ Aside0 (y.length = n) ∧ Aside0 (Kd.S (Kd.slice 5 (Kd.int .u8)) 70 wr w0.heap.size P0_ (.slice A n c) y) ∧ Aside0 (Below w0.heap.size w0 wr) ∧ Aside0 (Kept w wr P0_))
  case atStart => exact ⟨a1, 0, l0, rfl, rfl, H', ⟨Nat.le_refl _⟩, ⟨HN.out.symm⟩, ⟨by rw [HN.out]; exact HS0.out⟩, HB0, ⟨Kept.refl _ _⟩⟩
  case round =>
    clear HS0 HB0 H' HN
    obtain ⟨x1_1, x5_1, y, rfl, rfl, HA, HK1, HY, HS, HB, HK⟩ := hrel
    cases gk with
    | zero => exact absurd HA.out (by simp [laws_markByteSS.l0])
    | succ k1 =>
      have H := HA.out
      clear HA
      simp only [laws_markByteSS.l0] at H
      rw [HY.out] at H
      by_cases c6 : x5_1 < (n : Int)
      · rw [if_pos c6] at H
        have c6b0 : decide (x5_1 < (n : Int)) = true := decide_eq_true c6
        by_cases c7 : 0 ≤ x5_1
        · rw [if_pos c7] at H
          have c7b0 : decide (0 ≤ x5_1) = true := decide_eq_true c7
          replace H := Option.bind_eq_some_iff.mp H
          obtain ⟨⟨q1, q2⟩, e1, H⟩ := H
          have A8 := Aside0.mk e1
          have H' := Aside0.mk H
          clear e1 H
          rcases A with _ | ad
          · have h3 := Kd.R_reads' (Kd.S_R HS.out)
            obtain ⟨ad, e, _⟩ := h3.2.2.2.2 (by omega)
            cases e
          obtain ⟨g, rfl⟩ := Kd.R_head (Kd.S_R HS.out)
          obtain ⟨oki, cs, hcl, hM, hcc, hoki, hH⟩ := Kd.S_lend HS.out [] x5_1 c7 c6
          obtain ⟨row, hrow⟩ : ∃ row, row = y.getD x5_1.toNat [] := ⟨_, rfl⟩
          rw [← hrow] at hM
          have A9 := Aside0.mk (show laws_markByteS.f k1 row x1_1 = some (q1, q2) by rw [hrow]; exact A8.out)
          clear hrow A8
          obtain ⟨v, rfl, hR⟩ := hM
          obtain ⟨Av, cv, rfl⟩ := Kd.R_slice hR
          have hx := hcc 0 _ rfl
          simp only [Nat.add_zero] at hx
          have hx2 : wr.cell? ⟨g, x5_1.toNat, none⟩ = some (.slice Av row.length cv) := by have e : x5_1.toNat * (Kd.slice 5 (Kd.int .u8)).sz = x5_1.toNat := Nat.mul_one _; rw [e] at hx; exact hx
          have HR := Aside0.mk hR
          have HH := Aside0.mk hH
          have HO := Aside0.mk hoki
          clear hcl hcc hx hR hH hoki HS
          replace c6 := eq_true c6
          replace c7 := eq_true c7
          go_wp2_with (first | (go_at_call 51; (with_reducible refine (laws_markByteS.calls k1 oki _ row x1_1 q1 q2 w0 _ ?side1 ?side2 A9.out).mono ?_); (case side1 => exact HB.out); (case side2 => exact HR.out); rintro e w2 ⟨rfl, h1, h2, h3⟩; have HR2 := Aside0.mk h1; have HB2 := Aside0.mk h2; have HK2 := Aside0.mk h3; clear h1 h2 h3))
          go_roundg k1
          case measure => have := HK1.out; omega
          case rel =>
            refine ⟨q1, wrap64 (x5_1 + 1), y.set x5_1.toNat q2, (by first | rfl | (simp; done)), (by first | rfl | (simp; done)), H', ⟨by have := HK1.out; omega⟩, ⟨by rw [List.length_set]; exact HY.out⟩, ⟨?_⟩, HB2, ⟨HK.out.then_ HK2.out (fun k hk => .inl (HO.out k hk).1)⟩⟩
            refine Kd.H_back (okp := oki) (Kd.H_step HH.out (fun k h1 h2 h3 => HK2.out.2 k h3 h2)) ?_ (fun _ h => h)
            exact ⟨_, rfl, Kd.R_mono (Kd.R_tight rfl HR2.out) (fun k hk => HR.out.1 k hk.symm)⟩
        · rw [if_neg c7] at H
          exact absurd H (by simp)
      · rw [if_neg c6] at H
        have c6b0 : decide (x5_1 < (n : Int)) = false := decide_eq_false c6
        clear c6
        have e := Option.some.inj H
        have e1 : x1_1 = r1 := congrArg Prod.fst e
        have e2 : y = r2 := congrArg Prod.snd e
        subst e1
        subst e2
        clear H e
        go_wp2
        go_ret
        exact ⟨rfl, HS.out, HB.out, HK.out⟩
set_option maxHeartbeats 4000000 in
set_option maxRecDepth 100000 in
theorem laws_markMemory.calls (k : Nat) (P0_ : Nat → Prop) (u : Value) (l0 : List (List Int)) (a1 : Int) (r1 : Int) (r2 : List (List Int)) (w0 w : World) (hB : Below w0.heap.size w0 w) (ho0 : Kd.S (Kd.slice 5 (Kd.int .u8)) 70 w w0.heap.size P0_ u l0) (h : laws_markMemory.f k l0 a1 = some (r1, r2)) :
    Calls Try.prog 14 #[.agg #[u], .int .i64 a1] w fun e w' => e = .returned (.int .i64 r1) ∧ Kd.S (Kd.slice 5 (Kd.int .u8)) 70 w' w0.heap.size P0_ u r2 ∧ Below w0.heap.size w0 w' ∧ Kept w w' P0_ := by
  have hu31 := Try.underlying31
  obtain ⟨A, c, rfl⟩ := Kd.R_slice (Kd.S_R ho0)
  have HS := Aside0.mk ho0
  have HB := Aside0.mk hB
  have H := Aside0.mk (show laws_markByteSS.f k l0 a1 = some (r1, r2) from h)
  obtain ⟨n, hn⟩ : ∃ n, n = l0.length := ⟨_, rfl⟩
  rw [← hn] at HS ⊢
  clear ho0 hB h hn
  go_enter Try.func14, Try.ntmps14
  go_wp2_with (first | (go_at_call 33; (with_reducible refine (laws_markByteSS.calls k P0_ _ l0 a1 r1 r2 w0 _ ?side1 ?side2 H.out).mono ?_); (case side1 => exact HB.out.alloc HB.out.size _); (case side2 => exact Kd.S_alloc HS.out _); rintro e w2 ⟨rfl, h1, h2, h3⟩; have HR2 := Aside0.mk h1; have HB2 := Aside0.mk h2; have HK2 := Aside0.mk h3; clear h1 h2 h3))
  go_ret
  refine ⟨rfl, HR2.out, HB2.out, ?_⟩
  have e := Kept.of_below (below_alloc (Below.refl w.heap.size w) (.cells #[.slice A n c] 31 (0, 0))) P0_
  exact e.then_ HK2.out (fun k hk => .inl hk)
end Go.Proofs.Ytiiocpeeobjlgaa.P
end
section
namespace Go.Proofs.Ytiiocpeeobjlgaa.P
open Go.RowKit Go.Proofs.YtiiocpeeobjlgaaW.PrintWords Go.Proofs.YtiiocpeeobjlgaaW.PrintLast Go.Proofs.YtiiocpeeobjlgaaW.PrintMore
set_option linter.unusedVariables false
set_option linter.unusedSimpArgs false
set_option maxHeartbeats 8000000 in
set_option maxRecDepth 100000 in
theorem laws_FnExactPartCover.exit1 (k : Nat) (A0_0 : Option Addr) (c0_0 : Nat) (l0_0 : List (List Int)) (A1 : Option Addr) (c1 : Nat) (l1 : List S58) (a2 : Int) (z3 : Int) (w : World) (hr0_0 : Kd.C (Kd.slice 5 (Kd.int .u8)) w A0_0 l0_0.length l0_0) (hc0_0 : l0_0.length ≤ c0_0) (hr1 : Kd.C k58 w A1 l1.length l1) (hc1 : l1.length ≤ c1) (hE1 : laws_szMemory.f k l0_0 1048576 = some z3) (hz3_no : z3 < 0) :
    Calls Try.prog 3 #[.agg #[.slice A0_0 l0_0.length c0_0], .slice A1 l1.length c1, .int .i64 a2] w fun e w' => e = .returned (.bool true) ∧ Below w.heap.size w w' := by
  have hu24 := Try.underlying24
  have hu31 := Try.underlying31
  have HR0_0 := Aside0.mk hr0_0
  have HC0_0 := Aside0.mk hc0_0
  clear hr0_0 hc0_0
  have HR1 := Aside0.mk hr1
  have HC1 := Aside0.mk hc1
  clear hr1 hc1
  have E1 := Aside0.mk hE1
  clear hE1
  have d_z3 : decide (z3 < 0) = true := decide_eq_true hz3_no
  clear hz3_no
  have HB := Aside0.mk (Below.refl w.heap.size w)
  obtain ⟨n0, hn0⟩ : ∃ n_, n_ = w.heap.size := ⟨_, rfl⟩
  have HZ := Aside0.mk (Nat.le_of_eq hn0 : n0 ≤ w.heap.size)
  clear hn0
  go_enter Try.func3, Try.ntmps3
  go_wp2_with (first | ((with_reducible refine gate_dst (N := 3) rfl ?_); refine box_event ?hg (N := 3) ?hd (cs := #[.slice A0_0 l0_0.length c0_0]) (t := 24) ?hr ?_; (case hd => rfl); (case hg => rfl); (case hr => first | (go_simp; done) | (go_simp; rfl)); intro gb3 hg_ w3001 hbox hb; have mB_ := Aside0.mk (below_step (by (repeat (first | (with_reducible first | exact HB.out | apply below_alloc | apply pw_below_drewN | apply below_drew1) | exact HB.out))) hb); have mL_ := Aside0.mk (by (repeat (first | exact HZ.out | (with_reducible first | apply sz_alloc | apply sz_drewN | apply sz_drew | apply sz_set))) : n0 ≤ _); obtain ⟨n1, hn_⟩ : ∃ n_, n_ = w3001.heap.size := ⟨_, rfl⟩; have mN_ := Aside0.mk (by rw [hn_]; exact Nat.le_trans mL_.out hb.size : n0 ≤ n1); have mZ_ := Aside0.mk (Nat.le_of_eq hn_ : n1 ≤ w3001.heap.size); have xBK3_ := Aside0.mk (hbox); have xGE3_ := Aside0.mk (by rw [hg_]; exact below_size (by (repeat (first | (with_reducible first | exact HB.out | apply below_alloc | apply pw_below_drewN | apply below_drew1) | exact HB.out))) : w.heap.size ≤ gb3); have xHI3_ := Aside0.mk (⟨by rw [hg_]; exact mL_.out, by rw [hn_]; exact blk_lt hbox⟩ : n0 ≤ gb3 ∧ gb3 < n1); clear HB HZ; have HB := mB_; have HZ := mZ_; have HN1 := mN_; have BK3 := xBK3_; have GE3 := xGE3_; have HI3 := xHI3_; clear mB_ mN_ mZ_ mL_ xBK3_ xGE3_ xHI3_; (try clear hn_); clear hb hbox hg_; have hc2_0 := (blk_cell BK3.out 0).trans (show (#[.slice A0_0 l0_0.length c0_0] : Array Value)[0]? = some (.slice A0_0 l0_0.length c0_0) from rfl); have hf2_0 := blk_frozen BK3.out 0) | ((with_reducible refine gate_callee (f := 5) rfl ?_); refine goesL_ (some 21) rfl rfl Try.func5 (by kernel_rfl) rfl #[.agg #[.slice A0_0 l0_0.length c0_0], .int .i64 1048576] rfl (by (try simp only [List.map_toArray, List.map_cons, List.map_nil]); first | done | rfl) ?_; (with_reducible refine (laws_szMemory.calls k _ _ l0_0 1048576 z3 _ ?sr0 ?sc0 E1.out).mono ?_); (case sr0 => exact Kd.C_below HR0_0.out (by (repeat (first | (with_reducible first | exact HB.out | apply below_alloc | apply pw_below_drewN | apply below_drew1 | refine below_set ?_ GE3.out) | exact HB.out)))); (case sc0 => exact HC0_0.out); rintro e w1004 ⟨rfl, hb⟩; refine ⟨_, rfl, ?_⟩; have m0_ := Aside0.mk (blk_below (g := gb3) (o := .cells #[.slice A0_0 l0_0.length c0_0] 24 (0, 0)) (by ((with_reducible repeat (first | refine blk_drewN ?_ _ | refine blk_drew ?_ | refine blk_alloc ?_ _)); exact BK3.out)) hb); have mB_ := Aside0.mk (below_step (by (repeat (first | (with_reducible first | exact HB.out | apply below_alloc | apply pw_below_drewN | apply below_drew1 | refine below_set ?_ GE3.out) | exact HB.out))) hb); have mL_ := Aside0.mk (by (repeat (first | exact HZ.out | (with_reducible first | apply sz_alloc | apply sz_drewN | apply sz_drew | apply sz_set))) : n1 ≤ _); obtain ⟨n2, hn_⟩ : ∃ n_, n_ = w1004.heap.size := ⟨_, rfl⟩; have mN_ := Aside0.mk (by rw [hn_]; exact Nat.le_trans mL_.out hb.size : n1 ≤ n2); have mZ_ := Aside0.mk (Nat.le_of_eq hn_ : n2 ≤ w1004.heap.size); clear BK3 HB HZ; have BK3 := m0_; have HB := mB_; have HZ := mZ_; have HN2 := mN_; clear m0_ mB_ mN_ mZ_ mL_; (try clear hn_); clear hb))
  go_ret
  exact ⟨rfl, by (repeat (first | (with_reducible first | exact HB.out | apply below_alloc | apply pw_below_drewN | apply below_drew1 | refine below_set ?_ GE3.out) | exact HB.out))⟩
set_option maxHeartbeats 8000000 in
set_option maxRecDepth 100000 in
theorem laws_FnExactPartCover.exit2 (k : Nat) (A0_0 : Option Addr) (c0_0 : Nat) (l0_0 : List (List Int)) (A1 : Option Addr) (c1 : Nat) (l1 : List S58) (a2 : Int) (z3 : Int) (z5 : Int) (w : World) (hr0_0 : Kd.C (Kd.slice 5 (Kd.int .u8)) w A0_0 l0_0.length l0_0) (hc0_0 : l0_0.length ≤ c0_0) (hr1 : Kd.C k58 w A1 l1.length l1) (hc1 : l1.length ≤ c1) (hE1 : laws_szMemory.f k l0_0 1048576 = some z3) (hE2 : laws_szWindowS.f l1 z3 = some z5) (hz3_no : ¬ z3 < 0) (hz5_no : z5 < 0) :
    Calls Try.prog 3 #[.agg #[.slice A0_0 l0_0.length c0_0], .slice A1 l1.length c1, .int .i64 a2] w fun e w' => e = .returned (.bool true) ∧ Below w.heap.size w w' := by
  have hu24 := Try.underlying24
  have hu31 := Try.underlying31
  have HR0_0 := Aside0.mk hr0_0
  have HC0_0 := Aside0.mk hc0_0
  clear hr0_0 hc0_0
  have HR1 := Aside0.mk hr1
  have HC1 := Aside0.mk hc1
  clear hr1 hc1
  have E1 := Aside0.mk hE1
  clear hE1
  have E2 := Aside0.mk hE2
  clear hE2
  have d_z3 : decide (z3 < 0) = false := decide_eq_false hz3_no
  clear hz3_no
  have d_z5 : decide (z5 < 0) = true := decide_eq_true hz5_no
  clear hz5_no
  have HB := Aside0.mk (Below.refl w.heap.size w)
  obtain ⟨n0, hn0⟩ : ∃ n_, n_ = w.heap.size := ⟨_, rfl⟩
  have HZ := Aside0.mk (Nat.le_of_eq hn0 : n0 ≤ w.heap.size)
  clear hn0
  go_enter Try.func3, Try.ntmps3
  go_wp2_with (first | ((with_reducible refine gate_dst (N := 3) rfl ?_); refine box_event ?hg (N := 3) ?hd (cs := #[.slice A0_0 l0_0.length c0_0]) (t := 24) ?hr ?_; (case hd => rfl); (case hg => rfl); (case hr => first | (go_simp; done) | (go_simp; rfl)); intro gb3 hg_ w3001 hbox hb; have mB_ := Aside0.mk (below_step (by (repeat (first | (with_reducible first | exact HB.out | apply below_alloc | apply pw_below_drewN | apply below_drew1) | exact HB.out))) hb); have mL_ := Aside0.mk (by (repeat (first | exact HZ.out | (with_reducible first | apply sz_alloc | apply sz_drewN | apply sz_drew | apply sz_set))) : n0 ≤ _); obtain ⟨n1, hn_⟩ : ∃ n_, n_ = w3001.heap.size := ⟨_, rfl⟩; have mN_ := Aside0.mk (by rw [hn_]; exact Nat.le_trans mL_.out hb.size : n0 ≤ n1); have mZ_ := Aside0.mk (Nat.le_of_eq hn_ : n1 ≤ w3001.heap.size); have xBK3_ := Aside0.mk (hbox); have xGE3_ := Aside0.mk (by rw [hg_]; exact below_size (by (repeat (first | (with_reducible first | exact HB.out | apply below_alloc | apply pw_below_drewN | apply below_drew1) | exact HB.out))) : w.heap.size ≤ gb3); have xHI3_ := Aside0.mk (⟨by rw [hg_]; exact mL_.out, by rw [hn_]; exact blk_lt hbox⟩ : n0 ≤ gb3 ∧ gb3 < n1); clear HB HZ; have HB := mB_; have HZ := mZ_; have HN1 := mN_; have BK3 := xBK3_; have GE3 := xGE3_; have HI3 := xHI3_; clear mB_ mN_ mZ_ mL_ xBK3_ xGE3_ xHI3_; (try clear hn_); clear hb hbox hg_; have hc2_0 := (blk_cell BK3.out 0).trans (show (#[.slice A0_0 l0_0.length c0_0] : Array Value)[0]? = some (.slice A0_0 l0_0.length c0_0) from rfl); have hf2_0 := blk_frozen BK3.out 0) | ((with_reducible refine gate_callee (f := 5) rfl ?_); refine goesL_ (some 21) rfl rfl Try.func5 (by kernel_rfl) rfl #[.agg #[.slice A0_0 l0_0.length c0_0], .int .i64 1048576] rfl (by (try simp only [List.map_toArray, List.map_cons, List.map_nil]); first | done | rfl) ?_; (with_reducible refine (laws_szMemory.calls k _ _ l0_0 1048576 z3 _ ?sr0 ?sc0 E1.out).mono ?_); (case sr0 => exact Kd.C_below HR0_0.out (by (repeat (first | (with_reducible first | exact HB.out | apply below_alloc | apply pw_below_drewN | apply below_drew1 | refine below_set ?_ GE3.out) | exact HB.out)))); (case sc0 => exact HC0_0.out); rintro e w1004 ⟨rfl, hb⟩; refine ⟨_, rfl, ?_⟩; have m0_ := Aside0.mk (blk_below (g := gb3) (o := .cells #[.slice A0_0 l0_0.length c0_0] 24 (0, 0)) (by ((with_reducible repeat (first | refine blk_drewN ?_ _ | refine blk_drew ?_ | refine blk_alloc ?_ _)); exact BK3.out)) hb); have mB_ := Aside0.mk (below_step (by (repeat (first | (with_reducible first | exact HB.out | apply below_alloc | apply pw_below_drewN | apply below_drew1 | refine below_set ?_ GE3.out) | exact HB.out))) hb); have mL_ := Aside0.mk (by (repeat (first | exact HZ.out | (with_reducible first | apply sz_alloc | apply sz_drewN | apply sz_drew | apply sz_set))) : n1 ≤ _); obtain ⟨n2, hn_⟩ : ∃ n_, n_ = w1004.heap.size := ⟨_, rfl⟩; have mN_ := Aside0.mk (by rw [hn_]; exact Nat.le_trans mL_.out hb.size : n1 ≤ n2); have mZ_ := Aside0.mk (Nat.le_of_eq hn_ : n2 ≤ w1004.heap.size); clear BK3 HB HZ; have BK3 := m0_; have HB := mB_; have HZ := mZ_; have HN2 := mN_; clear m0_ mB_ mN_ mZ_ mL_; (try clear hn_); clear hb) | ((with_reducible refine gate_callee (f := 6) rfl ?_); refine goesL_ (some 26) rfl rfl Try.func6 (by kernel_rfl) rfl #[.slice A1 l1.length c1, .int .i64 z3] rfl (by (try simp only [List.map_toArray, List.map_cons, List.map_nil]); first | done | rfl) ?_; (with_reducible refine (laws_szWindowS.calls _ _ l1 z3 z5 _ ?sr0 ?sc0 E2.out).mono ?_); (case sr0 => exact Kd.C_below HR1.out (by (repeat (first | (with_reducible first | exact HB.out | apply below_alloc | apply pw_below_drewN | apply below_drew1 | refine below_set ?_ GE3.out) | exact HB.out)))); (case sc0 => exact HC1.out); rintro e w1007 ⟨rfl, hd_⟩; have hb := hd_.below; clear hd_; refine ⟨_, rfl, ?_⟩; have m0_ := Aside0.mk (blk_below (g := gb3) (o := .cells #[.slice A0_0 l0_0.length c0_0] 24 (0, 0)) (by ((with_reducible repeat (first | refine blk_drewN ?_ _ | refine blk_drew ?_ | refine blk_alloc ?_ _)); exact BK3.out)) hb); have mB_ := Aside0.mk (below_step (by (repeat (first | (with_reducible first | exact HB.out | apply below_alloc | apply pw_below_drewN | apply below_drew1 | refine below_set ?_ GE3.out) | exact HB.out))) hb); have mL_ := Aside0.mk (by (repeat (first | exact HZ.out | (with_reducible first | apply sz_alloc | apply sz_drewN | apply sz_drew | apply sz_set))) : n2 ≤ _); obtain ⟨n3, hn_⟩ : ∃ n_, n_ = w1007.heap.size := ⟨_, rfl⟩; have mN_ := Aside0.mk (by rw [hn_]; exact Nat.le_trans mL_.out hb.size : n2 ≤ n3); have mZ_ := Aside0.mk (Nat.le_of_eq hn_ : n3 ≤ w1007.heap.size); clear BK3 HB HZ; have BK3 := m0_; have HB := mB_; have HZ := mZ_; have HN3 := mN_; clear m0_ mB_ mN_ mZ_ mL_; (try clear hn_); clear hb; have hc7_0 := (blk_cell BK3.out 0).trans (show (#[.slice A0_0 l0_0.length c0_0] : Array Value)[0]? = some (.slice A0_0 l0_0.length c0_0) from rfl); have hf7_0 := blk_frozen BK3.out 0))
  go_ret
  exact ⟨rfl, by (repeat (first | (with_reducible first | exact HB.out | apply below_alloc | apply pw_below_drewN | apply below_drew1 | refine below_set ?_ GE3.out) | exact HB.out))⟩
set_option maxHeartbeats 8000000 in
set_option maxRecDepth 100000 in
theorem laws_FnExactPartCover.walk (k : Nat) (A0_0 : Option Addr) (c0_0 : Nat) (l0_0 : List (List Int)) (A1 : Option Addr) (c1 : Nat) (l1 : List S58) (a2 : Int) (z3 : Int) (z5 : Int) (t9 : List (List Int)) (t13 : List (S56)) (g16 : List (Int × Int)) (ok17 : Bool) (s18 : List (Int × Int)) (m44 : Int) (y45 : List (List Int)) (m47 : Int) (y48 : List (S56)) (m51 : Int) (y52 : List (Int × Int)) (w : World) (hr0_0 : Kd.C (Kd.slice 5 (Kd.int .u8)) w A0_0 l0_0.length l0_0) (hc0_0 : l0_0.length ≤ c0_0) (hr1 : Kd.C k58 w A1 l1.length l1) (hc1 : l1.length ≤ c1) (hE1 : laws_szMemory.f k l0_0 1048576 = some z3) (hE2 : laws_szWindowS.f l1 z3 = some z5) (hE3 : laws_toMemory.f k l0_0 = some t9) (hE4 : laws_toWindowS.f k l1 = some t13) (hE5 : spec_PartCover.f k t9 t13 a2 = some (s18, ok17)) (hE8 : impl_PartCover.f k t9 t13 a2 = some (g16, ok17)) (hE9 : laws_eqIntA2S.f g16 s18 = some true) (hE11 : laws_eqMemory.f k t9 t9 = some true) (hE13 : laws_eqWindowS.f k t13 t13 = some true) (hE14 : laws_markMemory.f k t9 1 = some (m44, y45)) (hE15 : laws_markWindowS.f k t13 m44 = some (m47, y48)) (hE17 : laws_markIntA2S.f g16 1 = some (m51, y52)) (hE18 : laws_heldIntA2S.f y52 1 = some m51) (hz3_no : ¬ z3 < 0) (hz5_no : ¬ z5 < 0) (hm44_no : ¬ m44 < 0) (hm47_no : ¬ m47 < 0) (hm51_no : ¬ m51 < 0) :
    Calls Try.prog 3 #[.agg #[.slice A0_0 l0_0.length c0_0], .slice A1 l1.length c1, .int .i64 a2] w fun e w' => e = .returned (.bool true) ∧ Below w.heap.size w w' := by
  have hu24 := Try.underlying24
  have hu31 := Try.underlying31
  have HR0_0 := Aside0.mk hr0_0
  have HC0_0 := Aside0.mk hc0_0
  clear hr0_0 hc0_0
  have HR1 := Aside0.mk hr1
  have HC1 := Aside0.mk hc1
  clear hr1 hc1
  have E1 := Aside0.mk hE1
  clear hE1
  have E2 := Aside0.mk hE2
  clear hE2
  have E3 := Aside0.mk hE3
  clear hE3
  have E4 := Aside0.mk hE4
  clear hE4
  have E5 := Aside0.mk hE5
  clear hE5
  have E8 := Aside0.mk hE8
  clear hE8
  have E9 := Aside0.mk hE9
  clear hE9
  have E11 := Aside0.mk hE11
  clear hE11
  have E13 := Aside0.mk hE13
  clear hE13
  have E14 := Aside0.mk hE14
  clear hE14
  have E15 := Aside0.mk hE15
  clear hE15
  have E17 := Aside0.mk hE17
  clear hE17
  have E18 := Aside0.mk hE18
  clear hE18
  have d_z3 : decide (z3 < 0) = false := decide_eq_false hz3_no
  clear hz3_no
  have d_z5 : decide (z5 < 0) = false := decide_eq_false hz5_no
  clear hz5_no
  have d_m44 : decide (m44 < 0) = false := decide_eq_false hm44_no
  clear hm44_no
  have d_m47 : decide (m47 < 0) = false := decide_eq_false hm47_no
  clear hm47_no
  have d_m51 : decide (m51 < 0) = false := decide_eq_false hm51_no
  clear hm51_no
  have b_ok17 : (ok17 != ok17) = false := by cases ok17 <;> rfl
  have HB := Aside0.mk (Below.refl w.heap.size w)
  obtain ⟨n0, hn0⟩ : ∃ n_, n_ = w.heap.size := ⟨_, rfl⟩
  have HZ := Aside0.mk (Nat.le_of_eq hn0 : n0 ≤ w.heap.size)
  clear hn0
  go_enter Try.func3, Try.ntmps3
  go_upto_region 14 with (first | ((with_reducible refine gate_dst (N := 3) rfl ?_); refine box_event ?hg (N := 3) ?hd (cs := #[.slice A0_0 l0_0.length c0_0]) (t := 24) ?hr ?_; (case hd => rfl); (case hg => rfl); (case hr => first | (go_simp; done) | (go_simp; rfl)); intro gb3 hg_ w3001 hbox hb; have mB_ := Aside0.mk (below_step (by (repeat (first | (with_reducible first | exact HB.out | apply below_alloc | apply pw_below_drewN | apply below_drew1) | exact HB.out))) hb); have mL_ := Aside0.mk (by (repeat (first | exact HZ.out | (with_reducible first | apply sz_alloc | apply sz_drewN | apply sz_drew | apply sz_set))) : n0 ≤ _); obtain ⟨n1, hn_⟩ : ∃ n_, n_ = w3001.heap.size := ⟨_, rfl⟩; have mN_ := Aside0.mk (by rw [hn_]; exact Nat.le_trans mL_.out hb.size : n0 ≤ n1); have mZ_ := Aside0.mk (Nat.le_of_eq hn_ : n1 ≤ w3001.heap.size); have xBK3_ := Aside0.mk (hbox); have xGE3_ := Aside0.mk (by rw [hg_]; exact below_size (by (repeat (first | (with_reducible first | exact HB.out | apply below_alloc | apply pw_below_drewN | apply below_drew1) | exact HB.out))) : w.heap.size ≤ gb3); have xHI3_ := Aside0.mk (⟨by rw [hg_]; exact mL_.out, by rw [hn_]; exact blk_lt hbox⟩ : n0 ≤ gb3 ∧ gb3 < n1); clear HB HZ; have HB := mB_; have HZ := mZ_; have HN1 := mN_; have BK3 := xBK3_; have GE3 := xGE3_; have HI3 := xHI3_; clear mB_ mN_ mZ_ mL_ xBK3_ xGE3_ xHI3_; (try clear hn_); clear hb hbox hg_; have hc2_0 := (blk_cell BK3.out 0).trans (show (#[.slice A0_0 l0_0.length c0_0] : Array Value)[0]? = some (.slice A0_0 l0_0.length c0_0) from rfl); have hf2_0 := blk_frozen BK3.out 0) | ((with_reducible refine gate_callee (f := 5) rfl ?_); refine goesL_ (some 21) rfl rfl Try.func5 (by kernel_rfl) rfl #[.agg #[.slice A0_0 l0_0.length c0_0], .int .i64 1048576] rfl (by (try simp only [List.map_toArray, List.map_cons, List.map_nil]); first | done | rfl) ?_; (with_reducible refine (laws_szMemory.calls k _ _ l0_0 1048576 z3 _ ?sr0 ?sc0 E1.out).mono ?_); (case sr0 => exact Kd.C_below HR0_0.out (by (repeat (first | (with_reducible first | exact HB.out | apply below_alloc | apply pw_below_drewN | apply below_drew1 | refine below_set ?_ GE3.out) | exact HB.out)))); (case sc0 => exact HC0_0.out); rintro e w1004 ⟨rfl, hb⟩; refine ⟨_, rfl, ?_⟩; have m0_ := Aside0.mk (blk_below (g := gb3) (o := .cells #[.slice A0_0 l0_0.length c0_0] 24 (0, 0)) (by ((with_reducible repeat (first | refine blk_drewN ?_ _ | refine blk_drew ?_ | refine blk_alloc ?_ _)); exact BK3.out)) hb); have mB_ := Aside0.mk (below_step (by (repeat (first | (with_reducible first | exact HB.out | apply below_alloc | apply pw_below_drewN | apply below_drew1 | refine below_set ?_ GE3.out) | exact HB.out))) hb); have mL_ := Aside0.mk (by (repeat (first | exact HZ.out | (with_reducible first | apply sz_alloc | apply sz_drewN | apply sz_drew | apply sz_set))) : n1 ≤ _); obtain ⟨n2, hn_⟩ : ∃ n_, n_ = w1004.heap.size := ⟨_, rfl⟩; have mN_ := Aside0.mk (by rw [hn_]; exact Nat.le_trans mL_.out hb.size : n1 ≤ n2); have mZ_ := Aside0.mk (Nat.le_of_eq hn_ : n2 ≤ w1004.heap.size); clear BK3 HB HZ; have BK3 := m0_; have HB := mB_; have HZ := mZ_; have HN2 := mN_; clear m0_ mB_ mN_ mZ_ mL_; (try clear hn_); clear hb) | ((with_reducible refine gate_callee (f := 6) rfl ?_); refine goesL_ (some 26) rfl rfl Try.func6 (by kernel_rfl) rfl #[.slice A1 l1.length c1, .int .i64 z3] rfl (by (try simp only [List.map_toArray, List.map_cons, List.map_nil]); first | done | rfl) ?_; (with_reducible refine (laws_szWindowS.calls _ _ l1 z3 z5 _ ?sr0 ?sc0 E2.out).mono ?_); (case sr0 => exact Kd.C_below HR1.out (by (repeat (first | (with_reducible first | exact HB.out | apply below_alloc | apply pw_below_drewN | apply below_drew1 | refine below_set ?_ GE3.out) | exact HB.out)))); (case sc0 => exact HC1.out); rintro e w1007 ⟨rfl, hd_⟩; have hb := hd_.below; clear hd_; refine ⟨_, rfl, ?_⟩; have m0_ := Aside0.mk (blk_below (g := gb3) (o := .cells #[.slice A0_0 l0_0.length c0_0] 24 (0, 0)) (by ((with_reducible repeat (first | refine blk_drewN ?_ _ | refine blk_drew ?_ | refine blk_alloc ?_ _)); exact BK3.out)) hb); have mB_ := Aside0.mk (below_step (by (repeat (first | (with_reducible first | exact HB.out | apply below_alloc | apply pw_below_drewN | apply below_drew1 | refine below_set ?_ GE3.out) | exact HB.out))) hb); have mL_ := Aside0.mk (by (repeat (first | exact HZ.out | (with_reducible first | apply sz_alloc | apply sz_drewN | apply sz_drew | apply sz_set))) : n2 ≤ _); obtain ⟨n3, hn_⟩ : ∃ n_, n_ = w1007.heap.size := ⟨_, rfl⟩; have mN_ := Aside0.mk (by rw [hn_]; exact Nat.le_trans mL_.out hb.size : n2 ≤ n3); have mZ_ := Aside0.mk (Nat.le_of_eq hn_ : n3 ≤ w1007.heap.size); clear BK3 HB HZ; have BK3 := m0_; have HB := mB_; have HZ := mZ_; have HN3 := mN_; clear m0_ mB_ mN_ mZ_ mL_; (try clear hn_); clear hb; have hc7_0 := (blk_cell BK3.out 0).trans (show (#[.slice A0_0 l0_0.length c0_0] : Array Value)[0]? = some (.slice A0_0 l0_0.length c0_0) from rfl); have hf7_0 := blk_frozen BK3.out 0) | ((with_reducible refine gate_callee (f := 8) rfl ?_); refine goesL_ (some 31) rfl rfl Try.func8 (by kernel_rfl) rfl #[.agg #[.slice A0_0 l0_0.length c0_0]] rfl (by (try simp only [List.map_toArray, List.map_cons, List.map_nil]); first | done | rfl) ?_; (with_reducible refine (laws_toMemory.calls k _ _ l0_0 t9 _ ?sr0 ?sc0 E3.out).mono ?_); (case sr0 => exact Kd.C_below HR0_0.out (by (repeat (first | (with_reducible first | exact HB.out | apply below_alloc | apply pw_below_drewN | apply below_drew1 | refine below_set ?_ GE3.out) | exact HB.out)))); (case sc0 => exact HC0_0.out); rintro e w1012 ⟨v3_0, rfl, ho0_, hb⟩; refine ⟨_, rfl, ?_⟩; have m0_ := Aside0.mk (blk_below (g := gb3) (o := .cells #[.slice A0_0 l0_0.length c0_0] 24 (0, 0)) (by ((with_reducible repeat (first | refine blk_drewN ?_ _ | refine blk_drew ?_ | refine blk_alloc ?_ _)); exact BK3.out)) hb); have mB_ := Aside0.mk (below_step (by (repeat (first | (with_reducible first | exact HB.out | apply below_alloc | apply pw_below_drewN | apply below_drew1 | refine below_set ?_ GE3.out) | exact HB.out))) hb); have mL_ := Aside0.mk (by (repeat (first | exact HZ.out | (with_reducible first | apply sz_alloc | apply sz_drewN | apply sz_drew | apply sz_set))) : n3 ≤ _); obtain ⟨n4, hn_⟩ : ∃ n_, n_ = w1012.heap.size := ⟨_, rfl⟩; have mN_ := Aside0.mk (by rw [hn_]; exact Nat.le_trans mL_.out hb.size : n3 ≤ n4); have mZ_ := Aside0.mk (Nat.le_of_eq hn_ : n4 ≤ w1012.heap.size); have xHO11_ := Aside0.mk (show Kd.S (Kd.slice 5 (Kd.int .u8)) 70 w1012 w.heap.size (fun k_ => n3 ≤ k_ ∧ k_ < n4) _ t9 from Kd.S_mono (Kd.S_lower (Kd.S_bound ho0_) (below_size (by (repeat (first | (with_reducible first | exact HB.out | apply below_alloc | apply pw_below_drewN | apply below_drew1 | refine below_set ?_ GE3.out) | exact HB.out))))) (fun k_ hk_ => ⟨Nat.le_trans mL_.out hk_.2.1, by rw [hn_]; exact hk_.2.2.1⟩)); clear BK3 HB HZ; have BK3 := m0_; have HB := mB_; have HZ := mZ_; have HN4 := mN_; have HO11 := xHO11_; clear m0_ mB_ mN_ mZ_ mL_ xHO11_; (try clear hn_); clear hb ho0_; obtain ⟨Ao11, co11, eo_⟩ := Kd.S_slice HO11.out; subst eo_) | ((with_reducible refine gate_callee (f := 9) rfl ?_); refine goesL_ (some 33) rfl rfl Try.func9 (by kernel_rfl) rfl #[.slice A1 l1.length c1] rfl (by (try simp only [List.map_toArray, List.map_cons, List.map_nil]); first | done | rfl) ?_; (with_reducible refine (laws_toWindowS.calls k _ _ l1 t13 _ ?sr0 ?sc0 E4.out).mono ?_); (case sr0 => exact Kd.C_below HR1.out (by (repeat (first | (with_reducible first | exact HB.out | apply below_alloc | apply pw_below_drewN | apply below_drew1 | refine below_set ?_ GE3.out) | exact HB.out)))); (case sc0 => exact HC1.out); rintro e w1017 ⟨v4_0, rfl, ho0_, hb⟩; refine ⟨_, rfl, ?_⟩; have m0_ := Aside0.mk (blk_below (g := gb3) (o := .cells #[.slice A0_0 l0_0.length c0_0] 24 (0, 0)) (by ((with_reducible repeat (first | refine blk_drewN ?_ _ | refine blk_drew ?_ | refine blk_alloc ?_ _)); exact BK3.out)) hb); have m1_ := Aside0.mk (Kd.S_below (by ((with_reducible repeat (first | apply Kd.S_alloc | apply Kd.S_drewN | apply Kd.S_drew)); exact HO11.out)) hb); have mB_ := Aside0.mk (below_step (by (repeat (first | (with_reducible first | exact HB.out | apply below_alloc | apply pw_below_drewN | apply below_drew1 | refine below_set ?_ GE3.out) | exact HB.out))) hb); have mL_ := Aside0.mk (by (repeat (first | exact HZ.out | (with_reducible first | apply sz_alloc | apply sz_drewN | apply sz_drew | apply sz_set))) : n4 ≤ _); obtain ⟨n5, hn_⟩ : ∃ n_, n_ = w1017.heap.size := ⟨_, rfl⟩; have mN_ := Aside0.mk (by rw [hn_]; exact Nat.le_trans mL_.out hb.size : n4 ≤ n5); have mZ_ := Aside0.mk (Nat.le_of_eq hn_ : n5 ≤ w1017.heap.size); have xHO15_ := Aside0.mk (show Kd.R k56 56 w1017 w.heap.size (fun k_ => n4 ≤ k_ ∧ k_ < n5) _ t13 from Kd.R_mono (Kd.R_lower (Kd.R_bound ho0_) (below_size (by (repeat (first | (with_reducible first | exact HB.out | apply below_alloc | apply pw_below_drewN | apply below_drew1 | refine below_set ?_ GE3.out) | exact HB.out))))) (fun k_ hk_ => ⟨Nat.le_trans mL_.out hk_.2.1, by rw [hn_]; exact hk_.2.2.1⟩)); clear BK3 HO11 HB HZ; have BK3 := m0_; have HO11 := m1_; have HB := mB_; have HZ := mZ_; have HN5 := mN_; have HO15 := xHO15_; clear m0_ m1_ mB_ mN_ mZ_ mL_ xHO15_; (try clear hn_); clear hb ho0_; obtain ⟨Ao15, co15, eo_⟩ := Kd.R_slice HO15.out; subst eo_) | ((with_reducible refine gate_callee (f := 7) rfl ?_); refine goesL_ (some 35) rfl rfl Try.func7 (by kernel_rfl) rfl #[.agg #[.slice Ao11 t9.length co11], .slice Ao15 t13.length co15, .int .i64 a2] rfl (by (try simp only [List.map_toArray, List.map_cons, List.map_nil]); first | done | rfl) ?_; (with_reducible refine (spec_PartCover.calls k _ _ t9 _ _ t13 a2 s18 ok17 _ ?sr0 ?sc0 ?sr1 ?sc1 E5.out).mono ?_); (case sr0 => repeat (first | exact (Kd.S_reads' HO11.out).2.2 | (with_reducible refine Kd.C_alloc ?_ _) | (with_reducible refine Kd.C_drewN ?_ _) | (with_reducible refine Kd.C_drew ?_))); (case sc0 => first | exact (Kd.S_reads' HO11.out).2.1 | exact Nat.le_trans (Nat.le_of_eq (Kd.S_reads' HO11.out).1.symm) (Kd.S_reads' HO11.out).2.1); (case sr1 => repeat (first | exact (Kd.R_reads' HO15.out).2.2 | (with_reducible refine Kd.C_alloc ?_ _) | (with_reducible refine Kd.C_drewN ?_ _) | (with_reducible refine Kd.C_drew ?_))); (case sc1 => first | exact (Kd.R_reads' HO15.out).2.1 | exact Nat.le_trans (Nat.le_of_eq (Kd.R_reads' HO15.out).1.symm) (Kd.R_reads' HO15.out).2.1); rintro e w1023 ⟨v5_0, rfl, ho0_, hb⟩; refine ⟨_, rfl, ?_⟩; have m0_ := Aside0.mk (blk_below (g := gb3) (o := .cells #[.slice A0_0 l0_0.length c0_0] 24 (0, 0)) (by ((with_reducible repeat (first | refine blk_drewN ?_ _ | refine blk_drew ?_ | refine blk_alloc ?_ _)); exact BK3.out)) hb); have m1_ := Aside0.mk (Kd.S_below (by ((with_reducible repeat (first | apply Kd.S_alloc | apply Kd.S_drewN | apply Kd.S_drew)); exact HO11.out)) hb); have m2_ := Aside0.mk (Kd.R_below (by ((with_reducible repeat (first | apply Kd.R_alloc | apply Kd.R_drewN | apply Kd.R_drew)); exact HO15.out)) hb); have mB_ := Aside0.mk (below_step (by (repeat (first | (with_reducible first | exact HB.out | apply below_alloc | apply pw_below_drewN | apply below_drew1 | refine below_set ?_ GE3.out) | exact HB.out))) hb); have mL_ := Aside0.mk (by (repeat (first | exact HZ.out | (with_reducible first | apply sz_alloc | apply sz_drewN | apply sz_drew | apply sz_set))) : n5 ≤ _); obtain ⟨n6, hn_⟩ : ∃ n_, n_ = w1023.heap.size := ⟨_, rfl⟩; have mN_ := Aside0.mk (by rw [hn_]; exact Nat.le_trans mL_.out hb.size : n5 ≤ n6); have mZ_ := Aside0.mk (Nat.le_of_eq hn_ : n6 ≤ w1023.heap.size); have xHO20_ := Aside0.mk (show Kd.R kA2 53 w1023 w.heap.size (fun k_ => n5 ≤ k_ ∧ k_ < n6) _ s18 from Kd.R_mono (Kd.R_lower (Kd.R_bound ho0_) (below_size (by (repeat (first | (with_reducible first | exact HB.out | apply below_alloc | apply pw_below_drewN | apply below_drew1 | refine below_set ?_ GE3.out) | exact HB.out))))) (fun k_ hk_ => ⟨Nat.le_trans mL_.out hk_.2.1, by rw [hn_]; exact hk_.2.2.1⟩)); clear BK3 HO11 HO15 HB HZ; have BK3 := m0_; have HO11 := m1_; have HO15 := m2_; have HB := mB_; have HZ := mZ_; have HN6 := mN_; have HO20 := xHO20_; clear m0_ m1_ m2_ mB_ mN_ mZ_ mL_ xHO20_; (try clear hn_); clear hb ho0_; obtain ⟨Ao20, co20, eo_⟩ := Kd.R_slice HO20.out; subst eo_; have hc21_0 := (blk_cell BK3.out 0).trans (show (#[.slice A0_0 l0_0.length c0_0] : Array Value)[0]? = some (.slice A0_0 l0_0.length c0_0) from rfl); have hf21_0 := blk_frozen BK3.out 0) | ((with_reducible refine gate_callee (f := 8) rfl ?_); refine goesL_ (some 39) rfl rfl Try.func8 (by kernel_rfl) rfl #[.agg #[.slice A0_0 l0_0.length c0_0]] rfl (by (try simp only [List.map_toArray, List.map_cons, List.map_nil]); first | done | rfl) ?_; (with_reducible refine (laws_toMemory.calls k _ _ l0_0 t9 _ ?sr0 ?sc0 E3.out).mono ?_); (case sr0 => exact Kd.C_below HR0_0.out (by (repeat (first | (with_reducible first | exact HB.out | apply below_alloc | apply pw_below_drewN | apply below_drew1 | refine below_set ?_ GE3.out) | exact HB.out)))); (case sc0 => exact HC0_0.out); rintro e w1028 ⟨v6_0, rfl, ho0_, hb⟩; refine ⟨_, rfl, ?_⟩; have m0_ := Aside0.mk (blk_below (g := gb3) (o := .cells #[.slice A0_0 l0_0.length c0_0] 24 (0, 0)) (by ((with_reducible repeat (first | refine blk_drewN ?_ _ | refine blk_drew ?_ | refine blk_alloc ?_ _)); exact BK3.out)) hb); have m1_ := Aside0.mk (Kd.S_below (by ((with_reducible repeat (first | apply Kd.S_alloc | apply Kd.S_drewN | apply Kd.S_drew)); exact HO11.out)) hb); have m2_ := Aside0.mk (Kd.R_below (by ((with_reducible repeat (first | apply Kd.R_alloc | apply Kd.R_drewN | apply Kd.R_drew)); exact HO15.out)) hb); have m3_ := Aside0.mk (Kd.R_below (by ((with_reducible repeat (first | apply Kd.R_alloc | apply Kd.R_drewN | apply Kd.R_drew)); exact HO20.out)) hb); have mB_ := Aside0.mk (below_step (by (repeat (first | (with_reducible first | exact HB.out | apply below_alloc | apply pw_below_drewN | apply below_drew1 | refine below_set ?_ GE3.out) | exact HB.out))) hb); have mL_ := Aside0.mk (by (repeat (first | exact HZ.out | (with_reducible first | apply sz_alloc | apply sz_drewN | apply sz_drew | apply sz_set))) : n6 ≤ _); obtain ⟨n7, hn_⟩ : ∃ n_, n_ = w1028.heap.size := ⟨_, rfl⟩; have mN_ := Aside0.mk (by rw [hn_]; exact Nat.le_trans mL_.out hb.size : n6 ≤ n7); have mZ_ := Aside0.mk (Nat.le_of_eq hn_ : n7 ≤ w1028.heap.size); have xHO24_ := Aside0.mk (show Kd.S (Kd.slice 5 (Kd.int .u8)) 70 w1028 w.heap.size (fun k_ => n6 ≤ k_ ∧ k_ < n7) _ t9 from Kd.S_mono (Kd.S_lower (Kd.S_bound ho0_) (below_size (by (repeat (first | (with_reducible first | exact HB.out | apply below_alloc | apply pw_below_drewN | apply below_drew1 | refine below_set ?_ GE3.out) | exact HB.out))))) (fun k_ hk_ => ⟨Nat.le_trans mL_.out hk_.2.1, by rw [hn_]; exact hk_.2.2.1⟩)); clear BK3 HO11 HO15 HO20 HB HZ; have BK3 := m0_; have HO11 := m1_; have HO15 := m2_; have HO20 := m3_; have HB := mB_; have HZ := mZ_; have HN7 := mN_; have HO24 := xHO24_; clear m0_ m1_ m2_ m3_ mB_ mN_ mZ_ mL_ xHO24_; (try clear hn_); clear hb ho0_; obtain ⟨Ao24, co24, eo_⟩ := Kd.S_slice HO24.out; subst eo_) | ((with_reducible refine gate_dst (N := 10) rfl ?_); refine box_event ?hg (N := 10) ?hd (cs := #[.slice none 0 0]) (t := 31) ?hr ?_; (case hd => rfl); (case hg => rfl); (case hr => first | (go_simp; done) | (go_simp; rfl)); intro gb10 hg_ w3025 hbox hb; have m0_ := Aside0.mk (blk_below (g := gb3) (o := .cells #[.slice A0_0 l0_0.length c0_0] 24 (0, 0)) (by ((with_reducible repeat (first | refine blk_drewN ?_ _ | refine blk_drew ?_ | refine blk_alloc ?_ _)); exact BK3.out)) hb); have m1_ := Aside0.mk (Kd.S_below (by ((with_reducible repeat (first | apply Kd.S_alloc | apply Kd.S_drewN | apply Kd.S_drew)); exact HO11.out)) hb); have m2_ := Aside0.mk (Kd.R_below (by ((with_reducible repeat (first | apply Kd.R_alloc | apply Kd.R_drewN | apply Kd.R_drew)); exact HO15.out)) hb); have m3_ := Aside0.mk (Kd.R_below (by ((with_reducible repeat (first | apply Kd.R_alloc | apply Kd.R_drewN | apply Kd.R_drew)); exact HO20.out)) hb); have m4_ := Aside0.mk (Kd.S_below (by ((with_reducible repeat (first | apply Kd.S_alloc | apply Kd.S_drewN | apply Kd.S_drew)); exact HO24.out)) hb); have mB_ := Aside0.mk (below_step (by (repeat (first | (with_reducible first | exact HB.out | apply below_alloc | apply pw_below_drewN | apply below_drew1 | refine below_set ?_ GE3.out) | exact HB.out))) hb); have mL_ := Aside0.mk (by (repeat (first | exact HZ.out | (with_reducible first | apply sz_alloc | apply sz_drewN | apply sz_drew | apply sz_set))) : n7 ≤ _); obtain ⟨n8, hn_⟩ : ∃ n_, n_ = w3025.heap.size := ⟨_, rfl⟩; have mN_ := Aside0.mk (by rw [hn_]; exact Nat.le_trans mL_.out hb.size : n7 ≤ n8); have mZ_ := Aside0.mk (Nat.le_of_eq hn_ : n8 ≤ w3025.heap.size); have xBK10_ := Aside0.mk (hbox); have xGE10_ := Aside0.mk (by rw [hg_]; exact below_size (by (repeat (first | (with_reducible first | exact HB.out | apply below_alloc | apply pw_below_drewN | apply below_drew1 | refine below_set ?_ GE3.out) | exact HB.out))) : w.heap.size ≤ gb10); have xHI10_ := Aside0.mk (⟨by rw [hg_]; exact mL_.out, by rw [hn_]; exact blk_lt hbox⟩ : n7 ≤ gb10 ∧ gb10 < n8); clear BK3 HO11 HO15 HO20 HO24 HB HZ; have BK3 := m0_; have HO11 := m1_; have HO15 := m2_; have HO20 := m3_; have HO24 := m4_; have HB := mB_; have HZ := mZ_; have HN8 := mN_; have BK10 := xBK10_; have GE10 := xGE10_; have HI10 := xHI10_; clear m0_ m1_ m2_ m3_ m4_ mB_ mN_ mZ_ mL_ xBK10_ xGE10_ xHI10_; (try clear hn_); clear hb hbox hg_; have hc26_0 := (blk_cell BK10.out 0).trans (show (#[.slice none 0 0] : Array Value)[0]? = some (.slice none 0 0) from rfl); have hf26_0 := blk_frozen BK10.out 0) | ((with_reducible refine gate_callee (f := 9) rfl ?_); refine goesL_ (some 41) rfl rfl Try.func9 (by kernel_rfl) rfl #[.slice A1 l1.length c1] rfl (by (try simp only [List.map_toArray, List.map_cons, List.map_nil]); first | done | rfl) ?_; (with_reducible refine (laws_toWindowS.calls k _ _ l1 t13 _ ?sr0 ?sc0 E4.out).mono ?_); (case sr0 => exact Kd.C_below HR1.out (by (repeat (first | (with_reducible first | exact HB.out | apply below_alloc | apply pw_below_drewN | apply below_drew1 | refine below_set ?_ GE3.out | refine below_set ?_ GE10.out) | exact HB.out)))); (case sc0 => exact HC1.out); rintro e w1034 ⟨v7_0, rfl, ho0_, hb⟩; refine ⟨_, rfl, ?_⟩; have m0_ := Aside0.mk (blk_below (g := gb3) (o := .cells #[.slice A0_0 l0_0.length c0_0] 24 (0, 0)) (by ((with_reducible repeat (first | refine blk_drewN ?_ _ | refine blk_drew ?_ | refine blk_alloc ?_ _)); refine blk_far ?_ (by show gb3 ≠ gb10; have h1_ := HI3.out; have h2_ := HI10.out; have q1_ := HN1.out; have q2_ := HN2.out; have q3_ := HN3.out; have q4_ := HN4.out; have q5_ := HN5.out; have q6_ := HN6.out; have q7_ := HN7.out; have q8_ := HN8.out; omega) _; (with_reducible repeat (first | refine blk_drewN ?_ _ | refine blk_drew ?_ | refine blk_alloc ?_ _)); exact BK3.out)) hb); have m1_ := Aside0.mk (blk_below (g := gb10) (o := .cells #[.slice Ao24 t9.length co24] 31 (0, 0)) (by ((with_reducible repeat (first | refine blk_drewN ?_ _ | refine blk_drew ?_ | refine blk_alloc ?_ _)); refine blk_put (cs := #[.slice none 0 0]) ?_ 0 _ rfl; (with_reducible repeat (first | refine blk_drewN ?_ _ | refine blk_drew ?_ | refine blk_alloc ?_ _)); exact BK10.out)) hb); have m2_ := Aside0.mk (Kd.S_below (by ((with_reducible repeat (first | apply Kd.S_alloc | apply Kd.S_drewN | apply Kd.S_drew)); exact Kd.S_far (p := ⟨gb10, 0, none⟩) HO11.out (fun k_ hk_ => by show k_ ≠ gb10; have h2_ := HI10.out; have h3_ : n3 ≤ k_ ∧ k_ < n4 := hk_; clear hk_; have q1_ := HN1.out; have q2_ := HN2.out; have q3_ := HN3.out; have q4_ := HN4.out; have q5_ := HN5.out; have q6_ := HN6.out; have q7_ := HN7.out; have q8_ := HN8.out; omega) _)) hb); have m3_ := Aside0.mk (Kd.R_below (by ((with_reducible repeat (first | apply Kd.R_alloc | apply Kd.R_drewN | apply Kd.R_drew)); exact Kd.R_far (p := ⟨gb10, 0, none⟩) HO15.out (fun k_ hk_ => by show k_ ≠ gb10; have h2_ := HI10.out; have h3_ : n4 ≤ k_ ∧ k_ < n5 := hk_; clear hk_; have q1_ := HN1.out; have q2_ := HN2.out; have q3_ := HN3.out; have q4_ := HN4.out; have q5_ := HN5.out; have q6_ := HN6.out; have q7_ := HN7.out; have q8_ := HN8.out; omega) _)) hb); have m4_ := Aside0.mk (Kd.R_below (by ((with_reducible repeat (first | apply Kd.R_alloc | apply Kd.R_drewN | apply Kd.R_drew)); exact Kd.R_far (p := ⟨gb10, 0, none⟩) HO20.out (fun k_ hk_ => by show k_ ≠ gb10; have h2_ := HI10.out; have h3_ : n5 ≤ k_ ∧ k_ < n6 := hk_; clear hk_; have q1_ := HN1.out; have q2_ := HN2.out; have q3_ := HN3.out; have q4_ := HN4.out; have q5_ := HN5.out; have q6_ := HN6.out; have q7_ := HN7.out; have q8_ := HN8.out; omega) _)) hb); have m5_ := Aside0.mk (Kd.S_below (by ((with_reducible repeat (first | apply Kd.S_alloc | apply Kd.S_drewN | apply Kd.S_drew)); exact Kd.S_far (p := ⟨gb10, 0, none⟩) HO24.out (fun k_ hk_ => by show k_ ≠ gb10; have h2_ := HI10.out; have h3_ : n6 ≤ k_ ∧ k_ < n7 := hk_; clear hk_; have q1_ := HN1.out; have q2_ := HN2.out; have q3_ := HN3.out; have q4_ := HN4.out; have q5_ := HN5.out; have q6_ := HN6.out; have q7_ := HN7.out; have q8_ := HN8.out; omega) _)) hb); have mB_ := Aside0.mk (below_step (by (repeat (first | (with_reducible first | exact HB.out | apply below_alloc | apply pw_below_drewN | apply below_drew1 | refine below_set ?_ GE3.out | refine below_set ?_ GE10.out) | exact HB.out))) hb); have mL_ := Aside0.mk (sz_set (p := ⟨gb10, 0, none⟩) (v := .slice Ao24 t9.length co24) HZ.out); obtain ⟨n9, hn_⟩ : ∃ n_, n_ = w1034.heap.size := ⟨_, rfl⟩; have mN_ := Aside0.mk (by rw [hn_]; exact Nat.le_trans mL_.out hb.size : n8 ≤ n9); have mZ_ := Aside0.mk (Nat.le_of_eq hn_ : n9 ≤ w1034.heap.size); have xHO29_ := Aside0.mk (show Kd.R k56 56 w1034 w.heap.size (fun k_ => n8 ≤ k_ ∧ k_ < n9) _ t13 from Kd.R_mono (Kd.R_lower (Kd.R_bound ho0_) (below_size (by (repeat (first | (with_reducible first | exact HB.out | apply below_alloc | apply pw_below_drewN | apply below_drew1 | refine below_set ?_ GE3.out | refine below_set ?_ GE10.out) | exact HB.out))))) (fun k_ hk_ => ⟨Nat.le_trans mL_.out hk_.2.1, by rw [hn_]; exact hk_.2.2.1⟩)); clear BK3 BK10 HO11 HO15 HO20 HO24 HB HZ; have BK3 := m0_; have BK10 := m1_; have HO11 := m2_; have HO15 := m3_; have HO20 := m4_; have HO24 := m5_; have HB := mB_; have HZ := mZ_; have HN9 := mN_; have HO29 := xHO29_; clear m0_ m1_ m2_ m3_ m4_ m5_ mB_ mN_ mZ_ mL_ xHO29_; (try clear hn_); clear hb ho0_; obtain ⟨Ao29, co29, eo_⟩ := Kd.R_slice HO29.out; subst eo_; have hc30_0 := (blk_cell BK10.out 0).trans (show (#[.slice Ao24 t9.length co24] : Array Value)[0]? = some (.slice Ao24 t9.length co24) from rfl); have hf30_0 := blk_frozen BK10.out 0) | ((with_reducible refine gate_callee (f := 10) rfl ?_); refine goesL_ (some 46) rfl rfl Try.func10 (by kernel_rfl) rfl #[.agg #[.slice Ao24 t9.length co24], .slice Ao29 t13.length co29, .int .i64 a2] rfl (by (try simp only [List.map_toArray, List.map_cons, List.map_nil]); first | done | rfl) ?_; (with_reducible refine (impl_PartCover.calls k _ _ t9 _ _ t13 a2 g16 ok17 _ ?sr0 ?sc0 ?sr1 ?sc1 E8.out).mono ?_); (case sr0 => repeat (first | exact (Kd.S_reads' HO24.out).2.2 | (with_reducible refine Kd.C_alloc ?_ _) | (with_reducible refine Kd.C_drewN ?_ _) | (with_reducible refine Kd.C_drew ?_))); (case sc0 => first | exact (Kd.S_reads' HO24.out).2.1 | exact Nat.le_trans (Nat.le_of_eq (Kd.S_reads' HO24.out).1.symm) (Kd.S_reads' HO24.out).2.1); (case sr1 => repeat (first | exact (Kd.R_reads' HO29.out).2.2 | (with_reducible refine Kd.C_alloc ?_ _) | (with_reducible refine Kd.C_drewN ?_ _) | (with_reducible refine Kd.C_drew ?_))); (case sc1 => first | exact (Kd.R_reads' HO29.out).2.1 | exact Nat.le_trans (Nat.le_of_eq (Kd.R_reads' HO29.out).1.symm) (Kd.R_reads' HO29.out).2.1); rintro e w1038 ⟨v8_0, rfl, ho0_, hb⟩; refine ⟨_, rfl, ?_⟩; have m0_ := Aside0.mk (blk_below (g := gb3) (o := .cells #[.slice A0_0 l0_0.length c0_0] 24 (0, 0)) (by ((with_reducible repeat (first | refine blk_drewN ?_ _ | refine blk_drew ?_ | refine blk_alloc ?_ _)); exact BK3.out)) hb); have m1_ := Aside0.mk (blk_below (g := gb10) (o := .cells #[.slice Ao24 t9.length co24] 31 (0, 0)) (by ((with_reducible repeat (first | refine blk_drewN ?_ _ | refine blk_drew ?_ | refine blk_alloc ?_ _)); exact BK10.out)) hb); have m2_ := Aside0.mk (Kd.S_below (by ((with_reducible repeat (first | apply Kd.S_alloc | apply Kd.S_drewN | apply Kd.S_drew)); exact HO11.out)) hb); have m3_ := Aside0.mk (Kd.R_below (by ((with_reducible repeat (first | apply Kd.R_alloc | apply Kd.R_drewN | apply Kd.R_drew)); exact HO15.out)) hb); have m4_ := Aside0.mk (Kd.R_below (by ((with_reducible repeat (first | apply Kd.R_alloc | apply Kd.R_drewN | apply Kd.R_drew)); exact HO20.out)) hb); have m5_ := Aside0.mk (Kd.S_below (by ((with_reducible repeat (first | apply Kd.S_alloc | apply Kd.S_drewN | apply Kd.S_drew)); exact HO24.out)) hb); have m6_ := Aside0.mk (Kd.R_below (by ((with_reducible repeat (first | apply Kd.R_alloc | apply Kd.R_drewN | apply Kd.R_drew)); exact HO29.out)) hb); have mB_ := Aside0.mk (below_step (by (repeat (first | (with_reducible first | exact HB.out | apply below_alloc | apply pw_below_drewN | apply below_drew1 | refine below_set ?_ GE3.out | refine below_set ?_ GE10.out) | exact HB.out))) hb); have mL_ := Aside0.mk (by (repeat (first | exact HZ.out | (with_reducible first | apply sz_alloc | apply sz_drewN | apply sz_drew | apply sz_set))) : n9 ≤ _); obtain ⟨n10, hn_⟩ : ∃ n_, n_ = w1038.heap.size := ⟨_, rfl⟩; have mN_ := Aside0.mk (by rw [hn_]; exact Nat.le_trans mL_.out hb.size : n9 ≤ n10); have mZ_ := Aside0.mk (Nat.le_of_eq hn_ : n10 ≤ w1038.heap.size); have xHO32_ := Aside0.mk (show Kd.R kA2 53 w1038 w.heap.size (fun k_ => n9 ≤ k_ ∧ k_ < n10) _ g16 from Kd.R_mono (Kd.R_lower (Kd.R_bound ho0_) (below_size (by (repeat (first | (with_reducible first | exact HB.out | apply below_alloc | apply pw_below_drewN | apply below_drew1 | refine below_set ?_ GE3.out | refine below_set ?_ GE10.out) | exact HB.out))))) (fun k_ hk_ => ⟨Nat.le_trans mL_.out hk_.2.1, by rw [hn_]; exact hk_.2.2.1⟩)); clear BK3 BK10 HO11 HO15 HO20 HO24 HO29 HB HZ; have BK3 := m0_; have BK10 := m1_; have HO11 := m2_; have HO15 := m3_; have HO20 := m4_; have HO24 := m5_; have HO29 := m6_; have HB := mB_; have HZ := mZ_; have HN10 := mN_; have HO32 := xHO32_; clear m0_ m1_ m2_ m3_ m4_ m5_ m6_ mB_ mN_ mZ_ mL_ xHO32_; (try clear hn_); clear hb ho0_; obtain ⟨Ao32, co32, eo_⟩ := Kd.R_slice HO32.out; subst eo_) | ((with_reducible refine gate_callee (f := 11) rfl ?_); refine goesL_ (some 51) rfl rfl Try.func11 (by kernel_rfl) rfl #[.slice Ao32 g16.length co32, .slice Ao20 s18.length co20] rfl (by (try simp only [List.map_toArray, List.map_cons, List.map_nil]); first | done | rfl) ?_; (with_reducible refine (laws_eqIntA2S.calls _ _ g16 _ _ s18 true _ ?sr0 ?sc0 ?sr1 ?sc1 E9.out).mono ?_); (case sr0 => repeat (first | exact (Kd.R_reads' HO32.out).2.2 | (with_reducible refine Kd.C_alloc ?_ _) | (with_reducible refine Kd.C_drewN ?_ _) | (with_reducible refine Kd.C_drew ?_))); (case sc0 => first | exact (Kd.R_reads' HO32.out).2.1 | exact Nat.le_trans (Nat.le_of_eq (Kd.R_reads' HO32.out).1.symm) (Kd.R_reads' HO32.out).2.1); (case sr1 => repeat (first | exact (Kd.R_reads' HO20.out).2.2 | (with_reducible refine Kd.C_alloc ?_ _) | (with_reducible refine Kd.C_drewN ?_ _) | (with_reducible refine Kd.C_drew ?_))); (case sc1 => first | exact (Kd.R_reads' HO20.out).2.1 | exact Nat.le_trans (Nat.le_of_eq (Kd.R_reads' HO20.out).1.symm) (Kd.R_reads' HO20.out).2.1); rintro e w1041 ⟨rfl, hb⟩; refine ⟨_, rfl, ?_⟩; have m0_ := Aside0.mk (blk_below (g := gb3) (o := .cells #[.slice A0_0 l0_0.length c0_0] 24 (0, 0)) (by ((with_reducible repeat (first | refine blk_drewN ?_ _ | refine blk_drew ?_ | refine blk_alloc ?_ _)); exact BK3.out)) hb); have m1_ := Aside0.mk (blk_below (g := gb10) (o := .cells #[.slice Ao24 t9.length co24] 31 (0, 0)) (by ((with_reducible repeat (first | refine blk_drewN ?_ _ | refine blk_drew ?_ | refine blk_alloc ?_ _)); exact BK10.out)) hb); have m2_ := Aside0.mk (Kd.S_below (by ((with_reducible repeat (first | apply Kd.S_alloc | apply Kd.S_drewN | apply Kd.S_drew)); exact HO11.out)) hb); have m3_ := Aside0.mk (Kd.R_below (by ((with_reducible repeat (first | apply Kd.R_alloc | apply Kd.R_drewN | apply Kd.R_drew)); exact HO15.out)) hb); have m4_ := Aside0.mk (Kd.R_below (by ((with_reducible repeat (first | apply Kd.R_alloc | apply Kd.R_drewN | apply Kd.R_drew)); exact HO20.out)) hb); have m5_ := Aside0.mk (Kd.S_below (by ((with_reducible repeat (first | apply Kd.S_alloc | apply Kd.S_drewN | apply Kd.S_drew)); exact HO24.out)) hb); have m6_ := Aside0.mk (Kd.R_below (by ((with_reducible repeat (first | apply Kd.R_alloc | apply Kd.R_drewN | apply Kd.R_drew)); exact HO29.out)) hb); have m7_ := Aside0.mk (Kd.R_below (by ((with_reducible repeat (first | apply Kd.R_alloc | apply Kd.R_drewN | apply Kd.R_drew)); exact HO32.out)) hb); have mB_ := Aside0.mk (below_step (by (repeat (first | (with_reducible first | exact HB.out | apply below_alloc | apply pw_below_drewN | apply below_drew1 | refine below_set ?_ GE3.out | refine below_set ?_ GE10.out) | exact HB.out))) hb); have mL_ := Aside0.mk (by (repeat (first | exact HZ.out | (with_reducible first | apply sz_alloc | apply sz_drewN | apply sz_drew | apply sz_set))) : n10 ≤ _); obtain ⟨n11, hn_⟩ : ∃ n_, n_ = w1041.heap.size := ⟨_, rfl⟩; have mN_ := Aside0.mk (by rw [hn_]; exact Nat.le_trans mL_.out hb.size : n10 ≤ n11); have mZ_ := Aside0.mk (Nat.le_of_eq hn_ : n11 ≤ w1041.heap.size); clear BK3 BK10 HO11 HO15 HO20 HO24 HO29 HO32 HB HZ; have BK3 := m0_; have BK10 := m1_; have HO11 := m2_; have HO15 := m3_; have HO20 := m4_; have HO24 := m5_; have HO29 := m6_; have HO32 := m7_; have HB := mB_; have HZ := mZ_; have HN11 := mN_; clear m0_ m1_ m2_ m3_ m4_ m5_ m6_ m7_ mB_ mN_ mZ_ mL_; (try clear hn_); clear hb))
  try go_wp2
  have m0_ := Aside0.mk (show (World.drew w1041).heap[gb3]? = some (Obj.cells #[.slice A0_0 l0_0.length c0_0] 24 (0, 0)) from blk_drew (by ((with_reducible repeat (first | refine blk_drewN ?_ _ | refine blk_drew ?_ | refine blk_alloc ?_ _)); exact BK3.out)))
  have m1_ := Aside0.mk (show (World.drew w1041).heap[gb10]? = some (Obj.cells #[.slice Ao24 t9.length co24] 31 (0, 0)) from blk_drew (by ((with_reducible repeat (first | refine blk_drewN ?_ _ | refine blk_drew ?_ | refine blk_alloc ?_ _)); exact BK10.out)))
  have m2_ := Aside0.mk (show Kd.S (Kd.slice 5 (Kd.int .u8)) 70 w1041.drew w.heap.size (fun k_ => n3 ≤ k_ ∧ k_ < n4) (.slice Ao11 t9.length co11) t9 from Kd.S_drew (by ((with_reducible repeat (first | apply Kd.S_alloc | apply Kd.S_drewN | apply Kd.S_drew)); exact HO11.out)))
  have m3_ := Aside0.mk (show Kd.R k56 56 w1041.drew w.heap.size (fun k_ => n4 ≤ k_ ∧ k_ < n5) (.slice Ao15 t13.length co15) t13 from Kd.R_drew (by ((with_reducible repeat (first | apply Kd.R_alloc | apply Kd.R_drewN | apply Kd.R_drew)); exact HO15.out)))
  have m4_ := Aside0.mk (show Kd.R kA2 53 w1041.drew w.heap.size (fun k_ => n5 ≤ k_ ∧ k_ < n6) (.slice Ao20 s18.length co20) s18 from Kd.R_drew (by ((with_reducible repeat (first | apply Kd.R_alloc | apply Kd.R_drewN | apply Kd.R_drew)); exact HO20.out)))
  have m5_ := Aside0.mk (show Kd.S (Kd.slice 5 (Kd.int .u8)) 70 w1041.drew w.heap.size (fun k_ => n6 ≤ k_ ∧ k_ < n7) (.slice Ao24 t9.length co24) t9 from Kd.S_drew (by ((with_reducible repeat (first | apply Kd.S_alloc | apply Kd.S_drewN | apply Kd.S_drew)); exact HO24.out)))
  have m6_ := Aside0.mk (show Kd.R k56 56 w1041.drew w.heap.size (fun k_ => n8 ≤ k_ ∧ k_ < n9) (.slice Ao29 t13.length co29) t13 from Kd.R_drew (by ((with_reducible repeat (first | apply Kd.R_alloc | apply Kd.R_drewN | apply Kd.R_drew)); exact HO29.out)))
  have m7_ := Aside0.mk (show Kd.R kA2 53 w1041.drew w.heap.size (fun k_ => n9 ≤ k_ ∧ k_ < n10) (.slice Ao32 g16.length co32) g16 from Kd.R_drew (by ((with_reducible repeat (first | apply Kd.R_alloc | apply Kd.R_drewN | apply Kd.R_drew)); exact HO32.out)))
  have m8_ := Aside0.mk (show Below w.heap.size w w1041.drew from below_drew1 (by (repeat (first | (with_reducible first | exact HB.out | apply below_alloc | apply pw_below_drewN | apply below_drew1 | refine below_set ?_ GE3.out | refine below_set ?_ GE10.out) | exact HB.out))))
  have m9_ := Aside0.mk (show n11 ≤ w1041.drew.heap.size from sz_drew (by (repeat (first | exact HZ.out | (with_reducible first | apply sz_alloc | apply sz_drewN | apply sz_drew | apply sz_set)))))
  clear BK3 BK10 HO11 HO15 HO20 HO24 HO29 HO32 HB HZ
  have BK3 := m0_
  have BK10 := m1_
  have HO11 := m2_
  have HO15 := m3_
  have HO20 := m4_
  have HO24 := m5_
  have HO29 := m6_
  have HO32 := m7_
  have HB := m8_
  have HZ := m9_
  clear m0_ m1_ m2_ m3_ m4_ m5_ m6_ m7_ m8_ m9_
  refine start_ (n := 5) (S := fun w' => w'.cell? ⟨gb10, 0, none⟩ = some (.slice Ao24 t9.length co24) ∧ w'.cell? ⟨gb3, 0, none⟩ = some (.slice A0_0 l0_0.length c0_0)) (ds := []) #[false, false, false, false, false] (by kernel_rfl) rfl rfl ⟨(blk_cell BK10.out 0).trans rfl, (blk_cell BK3.out 0).trans rfl⟩ (fun hHeld => ?_)
  generalize w1041.drew = w2034 at BK3 BK10 HO11 HO15 HO20 HO24 HO29 HO32 HB HZ hHeld ⊢
  refine take_ (i := 0) (N := some 58) (v := ?_) (a' := ?_) #[true, false, false, false, false] rfl rfl (by kernel_rfl) (fun _ _ _ h => h) (Or.inl ⟨by rfl, ?_⟩) hHeld ?_ ?_
  rotate_left
  · rintro w' ⟨s0_, s1_⟩
    go_simp
    with_reducible rfl
  rotate_left
  · simp only [Act.put, List.setIfInBounds_toArray, List.set_cons_zero, List.set_cons_succ, i64_w, i32_w]
    rfl
  refine take_ (i := 1) (N := some 59) (v := ?_) (a' := ?_) #[true, true, false, false, false] rfl rfl (by kernel_rfl) (fun _ _ _ h => h) (Or.inl ⟨by rfl, ?_⟩) hHeld ?_ ?_
  rotate_left
  · rintro w' ⟨s0_, s1_⟩
    go_simp
    with_reducible rfl
  rotate_left
  · simp only [Act.put, List.setIfInBounds_toArray, List.set_cons_zero, List.set_cons_succ, i64_w, i32_w]
    rfl
  refine one_ (i := 2) (N := some 60) #[true, true, true, false, false] rfl rfl (by kernel_rfl) (by decide) (fun K hK => ?_)
  refine goes_ Try.func8 (by kernel_rfl) rfl #[.agg #[.slice A0_0 l0_0.length c0_0]] (by rfl) rfl rfl (by (try simp only [List.map_toArray, List.map_cons, List.map_nil]); first | done | rfl | (simp only [List.length_drop, List.length_take]; rfl)) ?_
  (with_reducible refine (laws_toMemory.calls k _ _ l0_0 t9 _ ?sr0 ?sc0 E3.out).mono ?_)
  (case sr0 => exact Kd.C_below HR0_0.out (by (repeat (first | (with_reducible first | exact HB.out | apply below_alloc | apply pw_below_drewN | apply below_drew1 | refine below_set ?_ GE3.out | refine below_set ?_ GE10.out) | exact HB.out))))
  (case sc0 => exact HC0_0.out)
  rintro e w1045 ⟨v10_0, rfl, ho0_, hb⟩
  refine ⟨_, rfl, ?_⟩
  have m0_ := Aside0.mk (blk_below (g := gb3) (o := .cells #[.slice A0_0 l0_0.length c0_0] 24 (0, 0)) (by ((with_reducible repeat (first | refine blk_drewN ?_ _ | refine blk_drew ?_ | refine blk_alloc ?_ _)); exact BK3.out)) hb)
  have m1_ := Aside0.mk (blk_below (g := gb10) (o := .cells #[.slice Ao24 t9.length co24] 31 (0, 0)) (by ((with_reducible repeat (first | refine blk_drewN ?_ _ | refine blk_drew ?_ | refine blk_alloc ?_ _)); exact BK10.out)) hb)
  have m2_ := Aside0.mk (Kd.S_below (by ((with_reducible repeat (first | apply Kd.S_alloc | apply Kd.S_drewN | apply Kd.S_drew)); exact HO11.out)) hb)
  have m3_ := Aside0.mk (Kd.R_below (by ((with_reducible repeat (first | apply Kd.R_alloc | apply Kd.R_drewN | apply Kd.R_drew)); exact HO15.out)) hb)
  have m4_ := Aside0.mk (Kd.R_below (by ((with_reducible repeat (first | apply Kd.R_alloc | apply Kd.R_drewN | apply Kd.R_drew)); exact HO20.out)) hb)
  have m5_ := Aside0.mk (Kd.S_below (by ((with_reducible repeat (first | apply Kd.S_alloc | apply Kd.S_drewN | apply Kd.S_drew)); exact HO24.out)) hb)
  have m6_ := Aside0.mk (Kd.R_below (by ((with_reducible repeat (first | apply Kd.R_alloc | apply Kd.R_drewN | apply Kd.R_drew)); exact HO29.out)) hb)
  have m7_ := Aside0.mk (Kd.R_below (by ((with_reducible repeat (first | apply Kd.R_alloc | apply Kd.R_drewN | apply Kd.R_drew)); exact HO32.out)) hb)
  have mB_ := Aside0.mk (below_step (by (repeat (first | (with_reducible first | exact HB.out | apply below_alloc | apply pw_below_drewN | apply below_drew1 | refine below_set ?_ GE3.out | refine below_set ?_ GE10.out) | exact HB.out))) hb)
  have mL_ := Aside0.mk (by (repeat (first | exact HZ.out | (with_reducible first | apply sz_alloc | apply sz_drewN | apply sz_drew | apply sz_set))) : n11 ≤ _)
  obtain ⟨n12, hn_⟩ : ∃ n_, n_ = w1045.heap.size := ⟨_, rfl⟩
  have mN_ := Aside0.mk (by rw [hn_]; exact Nat.le_trans mL_.out hb.size : n11 ≤ n12)
  have mZ_ := Aside0.mk (Nat.le_of_eq hn_ : n12 ≤ w1045.heap.size)
  have xHO37_ := Aside0.mk (show Kd.S (Kd.slice 5 (Kd.int .u8)) 70 w1045 w.heap.size (fun k_ => n11 ≤ k_ ∧ k_ < n12) _ t9 from Kd.S_mono (Kd.S_lower (Kd.S_bound ho0_) (below_size (by (repeat (first | (with_reducible first | exact HB.out | apply below_alloc | apply pw_below_drewN | apply below_drew1 | refine below_set ?_ GE3.out | refine below_set ?_ GE10.out) | exact HB.out))))) (fun k_ hk_ => ⟨Nat.le_trans mL_.out hk_.2.1, by rw [hn_]; exact hk_.2.2.1⟩))
  clear BK3 BK10 HO11 HO15 HO20 HO24 HO29 HO32 HB HZ
  have BK3 := m0_
  have BK10 := m1_
  have HO11 := m2_
  have HO15 := m3_
  have HO20 := m4_
  have HO24 := m5_
  have HO29 := m6_
  have HO32 := m7_
  have HB := mB_
  have HZ := mZ_
  have HN12 := mN_
  have HO37 := xHO37_
  clear m0_ m1_ m2_ m3_ m4_ m5_ m6_ m7_ mB_ mN_ mZ_ mL_ xHO37_
  (try clear hn_)
  clear hb ho0_
  obtain ⟨Ao37, co37, eo_⟩ := Kd.S_slice HO37.out; subst eo_
  refine hK.out _ _ ⟨(blk_cell BK10.out 0).trans rfl, (blk_cell BK3.out 0).trans rfl⟩ (fun hHeld => ?_)
  clear hK K
  refine norm_ (a' := ?_) ?_ ?_
  rotate_left
  · show Act.put _ (some 60) _ = _
    simp only [Act.put, List.setIfInBounds_toArray, List.set_cons_zero, List.set_cons_succ, i64_w, i32_w]
    rfl
  refine one_ (i := 3) (N := some 61) #[true, true, true, true, false] rfl rfl (by kernel_rfl) (by decide) (fun K hK => ?_)
  refine goes_ Try.func12 (by kernel_rfl) rfl #[.agg #[.slice Ao24 t9.length co24], .agg #[.slice Ao37 t9.length co37]] (by rfl) rfl rfl (by (try simp only [List.map_toArray, List.map_cons, List.map_nil]); first | done | rfl | (simp only [List.length_drop, List.length_take]; rfl)) ?_
  (with_reducible refine (laws_eqMemory.calls k _ _ t9 _ _ t9 true _ ?sr0 ?sc0 ?sr1 ?sc1 E11.out).mono ?_)
  (case sr0 => repeat (first | exact (Kd.S_reads' HO24.out).2.2 | (with_reducible refine Kd.C_alloc ?_ _) | (with_reducible refine Kd.C_drewN ?_ _) | (with_reducible refine Kd.C_drew ?_)))
  (case sc0 => first | exact (Kd.S_reads' HO24.out).2.1 | exact Nat.le_trans (Nat.le_of_eq (Kd.S_reads' HO24.out).1.symm) (Kd.S_reads' HO24.out).2.1)
  (case sr1 => repeat (first | exact (Kd.S_reads' HO37.out).2.2 | (with_reducible refine Kd.C_alloc ?_ _) | (with_reducible refine Kd.C_drewN ?_ _) | (with_reducible refine Kd.C_drew ?_)))
  (case sc1 => first | exact (Kd.S_reads' HO37.out).2.1 | exact Nat.le_trans (Nat.le_of_eq (Kd.S_reads' HO37.out).1.symm) (Kd.S_reads' HO37.out).2.1)
  rintro e w1048 ⟨rfl, hb⟩
  refine ⟨_, rfl, ?_⟩
  have m0_ := Aside0.mk (blk_below (g := gb3) (o := .cells #[.slice A0_0 l0_0.length c0_0] 24 (0, 0)) (by ((with_reducible repeat (first | refine blk_drewN ?_ _ | refine blk_drew ?_ | refine blk_alloc ?_ _)); exact BK3.out)) hb)
  have m1_ := Aside0.mk (blk_below (g := gb10) (o := .cells #[.slice Ao24 t9.length co24] 31 (0, 0)) (by ((with_reducible repeat (first | refine blk_drewN ?_ _ | refine blk_drew ?_ | refine blk_alloc ?_ _)); exact BK10.out)) hb)
  have m2_ := Aside0.mk (Kd.S_below (by ((with_reducible repeat (first | apply Kd.S_alloc | apply Kd.S_drewN | apply Kd.S_drew)); exact HO11.out)) hb)
  have m3_ := Aside0.mk (Kd.R_below (by ((with_reducible repeat (first | apply Kd.R_alloc | apply Kd.R_drewN | apply Kd.R_drew)); exact HO15.out)) hb)
  have m4_ := Aside0.mk (Kd.R_below (by ((with_reducible repeat (first | apply Kd.R_alloc | apply Kd.R_drewN | apply Kd.R_drew)); exact HO20.out)) hb)
  have m5_ := Aside0.mk (Kd.S_below (by ((with_reducible repeat (first | apply Kd.S_alloc | apply Kd.S_drewN | apply Kd.S_drew)); exact HO24.out)) hb)
  have m6_ := Aside0.mk (Kd.R_below (by ((with_reducible repeat (first | apply Kd.R_alloc | apply Kd.R_drewN | apply Kd.R_drew)); exact HO29.out)) hb)
  have m7_ := Aside0.mk (Kd.R_below (by ((with_reducible repeat (first | apply Kd.R_alloc | apply Kd.R_drewN | apply Kd.R_drew)); exact HO32.out)) hb)
  have m8_ := Aside0.mk (Kd.S_below (by ((with_reducible repeat (first | apply Kd.S_alloc | apply Kd.S_drewN | apply Kd.S_drew)); exact HO37.out)) hb)
  have mB_ := Aside0.mk (below_step (by (repeat (first | (with_reducible first | exact HB.out | apply below_alloc | apply pw_below_drewN | apply below_drew1 | refine below_set ?_ GE3.out | refine below_set ?_ GE10.out) | exact HB.out))) hb)
  have mL_ := Aside0.mk (by (repeat (first | exact HZ.out | (with_reducible first | apply sz_alloc | apply sz_drewN | apply sz_drew | apply sz_set))) : n12 ≤ _)
  obtain ⟨n13, hn_⟩ : ∃ n_, n_ = w1048.heap.size := ⟨_, rfl⟩
  have mN_ := Aside0.mk (by rw [hn_]; exact Nat.le_trans mL_.out hb.size : n12 ≤ n13)
  have mZ_ := Aside0.mk (Nat.le_of_eq hn_ : n13 ≤ w1048.heap.size)
  clear BK3 BK10 HO11 HO15 HO20 HO24 HO29 HO32 HO37 HB HZ
  have BK3 := m0_
  have BK10 := m1_
  have HO11 := m2_
  have HO15 := m3_
  have HO20 := m4_
  have HO24 := m5_
  have HO29 := m6_
  have HO32 := m7_
  have HO37 := m8_
  have HB := mB_
  have HZ := mZ_
  have HN13 := mN_
  clear m0_ m1_ m2_ m3_ m4_ m5_ m6_ m7_ m8_ mB_ mN_ mZ_ mL_
  (try clear hn_)
  clear hb
  refine hK.out _ _ ⟨(blk_cell BK10.out 0).trans rfl, (blk_cell BK3.out 0).trans rfl⟩ (fun hHeld => ?_)
  clear hK K
  refine norm_ (a' := ?_) ?_ ?_
  rotate_left
  · show Act.put _ (some 61) _ = _
    simp only [Act.put, List.setIfInBounds_toArray, List.set_cons_zero, List.set_cons_succ, i64_w, i32_w]
    rfl
  refine pure_ (i := 4) (N := some 62) (v := ?_) (a' := ?_) #[true, true, true, true, true] rfl rfl (by kernel_rfl) (fun _ _ _ h => h) (Or.inl ⟨by rfl, ?_⟩) ?_ ?_
  rotate_left
  · intro w'
    go_simp
    with_reducible rfl
  rotate_left
  · simp only [Act.put, List.setIfInBounds_toArray, List.set_cons_zero, List.set_cons_succ, i64_w, i32_w]
    rfl
  refine done_ (by kernel_rfl) ?_
  go_wp2_with (first | ((with_reducible refine gate_callee (f := 9) rfl ?_); refine goesL_ (some 65) rfl rfl Try.func9 (by kernel_rfl) rfl #[.slice A1 l1.length c1] rfl (by (try simp only [List.map_toArray, List.map_cons, List.map_nil]); first | done | rfl) ?_; (with_reducible refine (laws_toWindowS.calls k _ _ l1 t13 _ ?sr0 ?sc0 E4.out).mono ?_); (case sr0 => exact Kd.C_below HR1.out (by (repeat (first | (with_reducible first | exact HB.out | apply below_alloc | apply pw_below_drewN | apply below_drew1 | refine below_set ?_ GE3.out | refine below_set ?_ GE10.out) | exact HB.out)))); (case sc0 => exact HC1.out); rintro e w1051 ⟨v12_0, rfl, ho0_, hb⟩; refine ⟨_, rfl, ?_⟩; have m0_ := Aside0.mk (blk_below (g := gb3) (o := .cells #[.slice A0_0 l0_0.length c0_0] 24 (0, 0)) (by ((with_reducible repeat (first | refine blk_drewN ?_ _ | refine blk_drew ?_ | refine blk_alloc ?_ _)); exact BK3.out)) hb); have m1_ := Aside0.mk (blk_below (g := gb10) (o := .cells #[.slice Ao24 t9.length co24] 31 (0, 0)) (by ((with_reducible repeat (first | refine blk_drewN ?_ _ | refine blk_drew ?_ | refine blk_alloc ?_ _)); exact BK10.out)) hb); have m2_ := Aside0.mk (Kd.S_below (by ((with_reducible repeat (first | apply Kd.S_alloc | apply Kd.S_drewN | apply Kd.S_drew)); exact HO11.out)) hb); have m3_ := Aside0.mk (Kd.R_below (by ((with_reducible repeat (first | apply Kd.R_alloc | apply Kd.R_drewN | apply Kd.R_drew)); exact HO15.out)) hb); have m4_ := Aside0.mk (Kd.R_below (by ((with_reducible repeat (first | apply Kd.R_alloc | apply Kd.R_drewN | apply Kd.R_drew)); exact HO20.out)) hb); have m5_ := Aside0.mk (Kd.S_below (by ((with_reducible repeat (first | apply Kd.S_alloc | apply Kd.S_drewN | apply Kd.S_drew)); exact HO24.out)) hb); have m6_ := Aside0.mk (Kd.R_below (by ((with_reducible repeat (first | apply Kd.R_alloc | apply Kd.R_drewN | apply Kd.R_drew)); exact HO29.out)) hb); have m7_ := Aside0.mk (Kd.R_below (by ((with_reducible repeat (first | apply Kd.R_alloc | apply Kd.R_drewN | apply Kd.R_drew)); exact HO32.out)) hb); have m8_ := Aside0.mk (Kd.S_below (by ((with_reducible repeat (first | apply Kd.S_alloc | apply Kd.S_drewN | apply Kd.S_drew)); exact HO37.out)) hb); have mB_ := Aside0.mk (below_step (by (repeat (first | (with_reducible first | exact HB.out | apply below_alloc | apply pw_below_drewN | apply below_drew1 | refine below_set ?_ GE3.out | refine below_set ?_ GE10.out) | exact HB.out))) hb); have mL_ := Aside0.mk (by (repeat (first | exact HZ.out | (with_reducible first | apply sz_alloc | apply sz_drewN | apply sz_drew | apply sz_set))) : n13 ≤ _); obtain ⟨n14, hn_⟩ : ∃ n_, n_ = w1051.heap.size := ⟨_, rfl⟩; have mN_ := Aside0.mk (by rw [hn_]; exact Nat.le_trans mL_.out hb.size : n13 ≤ n14); have mZ_ := Aside0.mk (Nat.le_of_eq hn_ : n14 ≤ w1051.heap.size); have xHO41_ := Aside0.mk (show Kd.R k56 56 w1051 w.heap.size (fun k_ => n13 ≤ k_ ∧ k_ < n14) _ t13 from Kd.R_mono (Kd.R_lower (Kd.R_bound ho0_) (below_size (by (repeat (first | (with_reducible first | exact HB.out | apply below_alloc | apply pw_below_drewN | apply below_drew1 | refine below_set ?_ GE3.out | refine below_set ?_ GE10.out) | exact HB.out))))) (fun k_ hk_ => ⟨Nat.le_trans mL_.out hk_.2.1, by rw [hn_]; exact hk_.2.2.1⟩)); clear BK3 BK10 HO11 HO15 HO20 HO24 HO29 HO32 HO37 HB HZ; have BK3 := m0_; have BK10 := m1_; have HO11 := m2_; have HO15 := m3_; have HO20 := m4_; have HO24 := m5_; have HO29 := m6_; have HO32 := m7_; have HO37 := m8_; have HB := mB_; have HZ := mZ_; have HN14 := mN_; have HO41 := xHO41_; clear m0_ m1_ m2_ m3_ m4_ m5_ m6_ m7_ m8_ mB_ mN_ mZ_ mL_ xHO41_; (try clear hn_); clear hb ho0_; obtain ⟨Ao41, co41, eo_⟩ := Kd.R_slice HO41.out; subst eo_) | ((with_reducible refine gate_callee (f := 13) rfl ?_); refine goesL_ (some 66) rfl rfl Try.func13 (by kernel_rfl) rfl #[.slice Ao29 t13.length co29, .slice Ao41 t13.length co41] rfl (by (try simp only [List.map_toArray, List.map_cons, List.map_nil]); first | done | rfl) ?_; (with_reducible refine (laws_eqWindowS.calls k _ _ t13 _ _ t13 true _ ?sr0 ?sc0 ?sr1 ?sc1 E13.out).mono ?_); (case sr0 => repeat (first | exact (Kd.R_reads' HO29.out).2.2 | (with_reducible refine Kd.C_alloc ?_ _) | (with_reducible refine Kd.C_drewN ?_ _) | (with_reducible refine Kd.C_drew ?_))); (case sc0 => first | exact (Kd.R_reads' HO29.out).2.1 | exact Nat.le_trans (Nat.le_of_eq (Kd.R_reads' HO29.out).1.symm) (Kd.R_reads' HO29.out).2.1); (case sr1 => repeat (first | exact (Kd.R_reads' HO41.out).2.2 | (with_reducible refine Kd.C_alloc ?_ _) | (with_reducible refine Kd.C_drewN ?_ _) | (with_reducible refine Kd.C_drew ?_))); (case sc1 => first | exact (Kd.R_reads' HO41.out).2.1 | exact Nat.le_trans (Nat.le_of_eq (Kd.R_reads' HO41.out).1.symm) (Kd.R_reads' HO41.out).2.1); rintro e w1054 ⟨rfl, hb⟩; refine ⟨_, rfl, ?_⟩; have m0_ := Aside0.mk (blk_below (g := gb3) (o := .cells #[.slice A0_0 l0_0.length c0_0] 24 (0, 0)) (by ((with_reducible repeat (first | refine blk_drewN ?_ _ | refine blk_drew ?_ | refine blk_alloc ?_ _)); exact BK3.out)) hb); have m1_ := Aside0.mk (blk_below (g := gb10) (o := .cells #[.slice Ao24 t9.length co24] 31 (0, 0)) (by ((with_reducible repeat (first | refine blk_drewN ?_ _ | refine blk_drew ?_ | refine blk_alloc ?_ _)); exact BK10.out)) hb); have m2_ := Aside0.mk (Kd.S_below (by ((with_reducible repeat (first | apply Kd.S_alloc | apply Kd.S_drewN | apply Kd.S_drew)); exact HO11.out)) hb); have m3_ := Aside0.mk (Kd.R_below (by ((with_reducible repeat (first | apply Kd.R_alloc | apply Kd.R_drewN | apply Kd.R_drew)); exact HO15.out)) hb); have m4_ := Aside0.mk (Kd.R_below (by ((with_reducible repeat (first | apply Kd.R_alloc | apply Kd.R_drewN | apply Kd.R_drew)); exact HO20.out)) hb); have m5_ := Aside0.mk (Kd.S_below (by ((with_reducible repeat (first | apply Kd.S_alloc | apply Kd.S_drewN | apply Kd.S_drew)); exact HO24.out)) hb); have m6_ := Aside0.mk (Kd.R_below (by ((with_reducible repeat (first | apply Kd.R_alloc | apply Kd.R_drewN | apply Kd.R_drew)); exact HO29.out)) hb); have m7_ := Aside0.mk (Kd.R_below (by ((with_reducible repeat (first | apply Kd.R_alloc | apply Kd.R_drewN | apply Kd.R_drew)); exact HO32.out)) hb); have m8_ := Aside0.mk (Kd.S_below (by ((with_reducible repeat (first | apply Kd.S_alloc | apply Kd.S_drewN | apply Kd.S_drew)); exact HO37.out)) hb); have m9_ := Aside0.mk (Kd.R_below (by ((with_reducible repeat (first | apply Kd.R_alloc | apply Kd.R_drewN | apply Kd.R_drew)); exact HO41.out)) hb); have mB_ := Aside0.mk (below_step (by (repeat (first | (with_reducible first | exact HB.out | apply below_alloc | apply pw_below_drewN | apply below_drew1 | refine below_set ?_ GE3.out | refine below_set ?_ GE10.out) | exact HB.out))) hb); have mL_ := Aside0.mk (by (repeat (first | exact HZ.out | (with_reducible first | apply sz_alloc | apply sz_drewN | apply sz_drew | apply sz_set))) : n14 ≤ _); obtain ⟨n15, hn_⟩ : ∃ n_, n_ = w1054.heap.size := ⟨_, rfl⟩; have mN_ := Aside0.mk (by rw [hn_]; exact Nat.le_trans mL_.out hb.size : n14 ≤ n15); have mZ_ := Aside0.mk (Nat.le_of_eq hn_ : n15 ≤ w1054.heap.size); clear BK3 BK10 HO11 HO15 HO20 HO24 HO29 HO32 HO37 HO41 HB HZ; have BK3 := m0_; have BK10 := m1_; have HO11 := m2_; have HO15 := m3_; have HO20 := m4_; have HO24 := m5_; have HO29 := m6_; have HO32 := m7_; have HO37 := m8_; have HO41 := m9_; have HB := mB_; have HZ := mZ_; have HN15 := mN_; clear m0_ m1_ m2_ m3_ m4_ m5_ m6_ m7_ m8_ m9_ mB_ mN_ mZ_ mL_; (try clear hn_); clear hb; have hc43_0 := (blk_cell BK10.out 0).trans (show (#[.slice Ao24 t9.length co24] : Array Value)[0]? = some (.slice Ao24 t9.length co24) from rfl); have hf43_0 := blk_frozen BK10.out 0) | ((with_reducible refine gate_callee (f := 14) rfl ?_); refine goesL_ (some 70) rfl rfl Try.func14 (by kernel_rfl) rfl #[.agg #[.slice Ao24 t9.length co24], .int .i64 1] rfl (by (try simp only [List.map_toArray, List.map_cons, List.map_nil]); first | done | rfl) ?_; (with_reducible refine (laws_markMemory.calls k (fun k_ => n6 ≤ k_ ∧ k_ < n7) _ t9 1 m44 y45 w _ ?sideB ?sideO E14.out).mono ?_); (case sideB => exact (by (repeat (first | (with_reducible first | exact HB.out | apply below_alloc | apply pw_below_drewN | apply below_drew1 | refine below_set ?_ GE3.out | refine below_set ?_ GE10.out) | exact HB.out)))); (case sideO => exact (by ((with_reducible repeat (first | apply Kd.S_alloc | apply Kd.S_drewN | apply Kd.S_drew)); exact HO24.out))); rintro e w1059 ⟨rfl, ho_, hb2_, hk⟩; refine ⟨_, rfl, ?_⟩; have m0_ := Aside0.mk (blk_kept (g := gb3) (o := .cells #[.slice A0_0 l0_0.length c0_0] 24 (0, 0)) (by ((with_reducible repeat (first | refine blk_drewN ?_ _ | refine blk_drew ?_ | refine blk_alloc ?_ _)); exact BK3.out)) hk (fun h_ => by have h1_ := HI3.out; have q1_ := HN1.out; have q2_ := HN2.out; have q3_ := HN3.out; have q4_ := HN4.out; have q5_ := HN5.out; have q6_ := HN6.out; have q7_ := HN7.out; have q8_ := HN8.out; have q9_ := HN9.out; have q10_ := HN10.out; have q11_ := HN11.out; have q12_ := HN12.out; have q13_ := HN13.out; have q14_ := HN14.out; have q15_ := HN15.out; omega)); have m1_ := Aside0.mk (blk_kept (g := gb10) (o := .cells #[.slice Ao24 t9.length co24] 31 (0, 0)) (by ((with_reducible repeat (first | refine blk_drewN ?_ _ | refine blk_drew ?_ | refine blk_alloc ?_ _)); exact BK10.out)) hk (fun h_ => by have h1_ := HI10.out; have q1_ := HN1.out; have q2_ := HN2.out; have q3_ := HN3.out; have q4_ := HN4.out; have q5_ := HN5.out; have q6_ := HN6.out; have q7_ := HN7.out; have q8_ := HN8.out; have q9_ := HN9.out; have q10_ := HN10.out; have q11_ := HN11.out; have q12_ := HN12.out; have q13_ := HN13.out; have q14_ := HN14.out; have q15_ := HN15.out; omega)); have m2_ := Aside0.mk (Kd.S_kept (by ((with_reducible repeat (first | apply Kd.S_alloc | apply Kd.S_drewN | apply Kd.S_drew)); exact HO11.out)) hk (fun k_ h1_ h2_ => by have q1_ := HN1.out; have q2_ := HN2.out; have q3_ := HN3.out; have q4_ := HN4.out; have q5_ := HN5.out; have q6_ := HN6.out; have q7_ := HN7.out; have q8_ := HN8.out; have q9_ := HN9.out; have q10_ := HN10.out; have q11_ := HN11.out; have q12_ := HN12.out; have q13_ := HN13.out; have q14_ := HN14.out; have q15_ := HN15.out; omega)); have m3_ := Aside0.mk (Kd.R_kept (by ((with_reducible repeat (first | apply Kd.R_alloc | apply Kd.R_drewN | apply Kd.R_drew)); exact HO15.out)) hk (fun k_ h1_ h2_ => by have q1_ := HN1.out; have q2_ := HN2.out; have q3_ := HN3.out; have q4_ := HN4.out; have q5_ := HN5.out; have q6_ := HN6.out; have q7_ := HN7.out; have q8_ := HN8.out; have q9_ := HN9.out; have q10_ := HN10.out; have q11_ := HN11.out; have q12_ := HN12.out; have q13_ := HN13.out; have q14_ := HN14.out; have q15_ := HN15.out; omega)); have m4_ := Aside0.mk (Kd.R_kept (by ((with_reducible repeat (first | apply Kd.R_alloc | apply Kd.R_drewN | apply Kd.R_drew)); exact HO20.out)) hk (fun k_ h1_ h2_ => by have q1_ := HN1.out; have q2_ := HN2.out; have q3_ := HN3.out; have q4_ := HN4.out; have q5_ := HN5.out; have q6_ := HN6.out; have q7_ := HN7.out; have q8_ := HN8.out; have q9_ := HN9.out; have q10_ := HN10.out; have q11_ := HN11.out; have q12_ := HN12.out; have q13_ := HN13.out; have q14_ := HN14.out; have q15_ := HN15.out; omega)); have m5_ := Aside0.mk (Kd.R_kept (by ((with_reducible repeat (first | apply Kd.R_alloc | apply Kd.R_drewN | apply Kd.R_drew)); exact HO29.out)) hk (fun k_ h1_ h2_ => by have q1_ := HN1.out; have q2_ := HN2.out; have q3_ := HN3.out; have q4_ := HN4.out; have q5_ := HN5.out; have q6_ := HN6.out; have q7_ := HN7.out; have q8_ := HN8.out; have q9_ := HN9.out; have q10_ := HN10.out; have q11_ := HN11.out; have q12_ := HN12.out; have q13_ := HN13.out; have q14_ := HN14.out; have q15_ := HN15.out; omega)); have m6_ := Aside0.mk (Kd.R_kept (by ((with_reducible repeat (first | apply Kd.R_alloc | apply Kd.R_drewN | apply Kd.R_drew)); exact HO32.out)) hk (fun k_ h1_ h2_ => by have q1_ := HN1.out; have q2_ := HN2.out; have q3_ := HN3.out; have q4_ := HN4.out; have q5_ := HN5.out; have q6_ := HN6.out; have q7_ := HN7.out; have q8_ := HN8.out; have q9_ := HN9.out; have q10_ := HN10.out; have q11_ := HN11.out; have q12_ := HN12.out; have q13_ := HN13.out; have q14_ := HN14.out; have q15_ := HN15.out; omega)); have m7_ := Aside0.mk (Kd.S_kept (by ((with_reducible repeat (first | apply Kd.S_alloc | apply Kd.S_drewN | apply Kd.S_drew)); exact HO37.out)) hk (fun k_ h1_ h2_ => by have q1_ := HN1.out; have q2_ := HN2.out; have q3_ := HN3.out; have q4_ := HN4.out; have q5_ := HN5.out; have q6_ := HN6.out; have q7_ := HN7.out; have q8_ := HN8.out; have q9_ := HN9.out; have q10_ := HN10.out; have q11_ := HN11.out; have q12_ := HN12.out; have q13_ := HN13.out; have q14_ := HN14.out; have q15_ := HN15.out; omega)); have m8_ := Aside0.mk (Kd.R_kept (by ((with_reducible repeat (first | apply Kd.R_alloc | apply Kd.R_drewN | apply Kd.R_drew)); exact HO41.out)) hk (fun k_ h1_ h2_ => by have q1_ := HN1.out; have q2_ := HN2.out; have q3_ := HN3.out; have q4_ := HN4.out; have q5_ := HN5.out; have q6_ := HN6.out; have q7_ := HN7.out; have q8_ := HN8.out; have q9_ := HN9.out; have q10_ := HN10.out; have q11_ := HN11.out; have q12_ := HN12.out; have q13_ := HN13.out; have q14_ := HN14.out; have q15_ := HN15.out; omega)); have mO_ := Aside0.mk (show Kd.S (Kd.slice 5 (Kd.int .u8)) 70 w1059 w.heap.size (fun k_ => n6 ≤ k_ ∧ k_ < n7) (.slice Ao24 t9.length co24) y45 from ho_); have mL_ := Aside0.mk (by (repeat (first | exact HZ.out | (with_reducible first | apply sz_alloc | apply sz_drewN | apply sz_drew | apply sz_set))) : n15 ≤ _); have mZ_ := Aside0.mk (Nat.le_trans mL_.out hk.1 : n15 ≤ w1059.heap.size); have mB_ := Aside0.mk hb2_; clear BK3 BK10 HO11 HO15 HO20 HO29 HO32 HO37 HO41 HB HZ HO24; have BK3 := m0_; have BK10 := m1_; have HO11 := m2_; have HO15 := m3_; have HO20 := m4_; have HO29 := m5_; have HO32 := m6_; have HO37 := m7_; have HO41 := m8_; have HO24 := mO_; have HB := mB_; have HZ := mZ_; clear m0_ m1_ m2_ m3_ m4_ m5_ m6_ m7_ m8_ mO_ mB_ mZ_ mL_; clear ho_ hb2_ hk) | ((with_reducible refine gate_callee (f := 15) rfl ?_); refine goesL_ (some 73) rfl rfl Try.func15 (by kernel_rfl) rfl #[.slice Ao29 t13.length co29, .int .i64 m44] rfl (by (try simp only [List.map_toArray, List.map_cons, List.map_nil]); first | done | rfl) ?_; (with_reducible refine (laws_markWindowS.calls k (fun k_ => n8 ≤ k_ ∧ k_ < n9) _ t13 m44 m47 y48 w _ ?sideB ?sideO E15.out).mono ?_); (case sideB => exact (by (repeat (first | (with_reducible first | exact HB.out | apply below_alloc | apply pw_below_drewN | apply below_drew1 | refine below_set ?_ GE3.out | refine below_set ?_ GE10.out) | exact HB.out)))); (case sideO => exact (by ((with_reducible repeat (first | apply Kd.R_alloc | apply Kd.R_drewN | apply Kd.R_drew)); exact HO29.out))); rintro e w1063 ⟨rfl, ho_, hb2_, hk⟩; refine ⟨_, rfl, ?_⟩; have m0_ := Aside0.mk (blk_kept (g := gb3) (o := .cells #[.slice A0_0 l0_0.length c0_0] 24 (0, 0)) (by ((with_reducible repeat (first | refine blk_drewN ?_ _ | refine blk_drew ?_ | refine blk_alloc ?_ _)); exact BK3.out)) hk (fun h_ => by have h1_ := HI3.out; have q1_ := HN1.out; have q2_ := HN2.out; have q3_ := HN3.out; have q4_ := HN4.out; have q5_ := HN5.out; have q6_ := HN6.out; have q7_ := HN7.out; have q8_ := HN8.out; have q9_ := HN9.out; have q10_ := HN10.out; have q11_ := HN11.out; have q12_ := HN12.out; have q13_ := HN13.out; have q14_ := HN14.out; have q15_ := HN15.out; omega)); have m1_ := Aside0.mk (blk_kept (g := gb10) (o := .cells #[.slice Ao24 t9.length co24] 31 (0, 0)) (by ((with_reducible repeat (first | refine blk_drewN ?_ _ | refine blk_drew ?_ | refine blk_alloc ?_ _)); exact BK10.out)) hk (fun h_ => by have h1_ := HI10.out; have q1_ := HN1.out; have q2_ := HN2.out; have q3_ := HN3.out; have q4_ := HN4.out; have q5_ := HN5.out; have q6_ := HN6.out; have q7_ := HN7.out; have q8_ := HN8.out; have q9_ := HN9.out; have q10_ := HN10.out; have q11_ := HN11.out; have q12_ := HN12.out; have q13_ := HN13.out; have q14_ := HN14.out; have q15_ := HN15.out; omega)); have m2_ := Aside0.mk (Kd.S_kept (by ((with_reducible repeat (first | apply Kd.S_alloc | apply Kd.S_drewN | apply Kd.S_drew)); exact HO11.out)) hk (fun k_ h1_ h2_ => by have q1_ := HN1.out; have q2_ := HN2.out; have q3_ := HN3.out; have q4_ := HN4.out; have q5_ := HN5.out; have q6_ := HN6.out; have q7_ := HN7.out; have q8_ := HN8.out; have q9_ := HN9.out; have q10_ := HN10.out; have q11_ := HN11.out; have q12_ := HN12.out; have q13_ := HN13.out; have q14_ := HN14.out; have q15_ := HN15.out; omega)); have m3_ := Aside0.mk (Kd.R_kept (by ((with_reducible repeat (first | apply Kd.R_alloc | apply Kd.R_drewN | apply Kd.R_drew)); exact HO15.out)) hk (fun k_ h1_ h2_ => by have q1_ := HN1.out; have q2_ := HN2.out; have q3_ := HN3.out; have q4_ := HN4.out; have q5_ := HN5.out; have q6_ := HN6.out; have q7_ := HN7.out; have q8_ := HN8.out; have q9_ := HN9.out; have q10_ := HN10.out; have q11_ := HN11.out; have q12_ := HN12.out; have q13_ := HN13.out; have q14_ := HN14.out; have q15_ := HN15.out; omega)); have m4_ := Aside0.mk (Kd.R_kept (by ((with_reducible repeat (first | apply Kd.R_alloc | apply Kd.R_drewN | apply Kd.R_drew)); exact HO20.out)) hk (fun k_ h1_ h2_ => by have q1_ := HN1.out; have q2_ := HN2.out; have q3_ := HN3.out; have q4_ := HN4.out; have q5_ := HN5.out; have q6_ := HN6.out; have q7_ := HN7.out; have q8_ := HN8.out; have q9_ := HN9.out; have q10_ := HN10.out; have q11_ := HN11.out; have q12_ := HN12.out; have q13_ := HN13.out; have q14_ := HN14.out; have q15_ := HN15.out; omega)); have m5_ := Aside0.mk (Kd.S_kept (by ((with_reducible repeat (first | apply Kd.S_alloc | apply Kd.S_drewN | apply Kd.S_drew)); exact HO24.out)) hk (fun k_ h1_ h2_ => by have q1_ := HN1.out; have q2_ := HN2.out; have q3_ := HN3.out; have q4_ := HN4.out; have q5_ := HN5.out; have q6_ := HN6.out; have q7_ := HN7.out; have q8_ := HN8.out; have q9_ := HN9.out; have q10_ := HN10.out; have q11_ := HN11.out; have q12_ := HN12.out; have q13_ := HN13.out; have q14_ := HN14.out; have q15_ := HN15.out; omega)); have m6_ := Aside0.mk (Kd.R_kept (by ((with_reducible repeat (first | apply Kd.R_alloc | apply Kd.R_drewN | apply Kd.R_drew)); exact HO32.out)) hk (fun k_ h1_ h2_ => by have q1_ := HN1.out; have q2_ := HN2.out; have q3_ := HN3.out; have q4_ := HN4.out; have q5_ := HN5.out; have q6_ := HN6.out; have q7_ := HN7.out; have q8_ := HN8.out; have q9_ := HN9.out; have q10_ := HN10.out; have q11_ := HN11.out; have q12_ := HN12.out; have q13_ := HN13.out; have q14_ := HN14.out; have q15_ := HN15.out; omega)); have m7_ := Aside0.mk (Kd.S_kept (by ((with_reducible repeat (first | apply Kd.S_alloc | apply Kd.S_drewN | apply Kd.S_drew)); exact HO37.out)) hk (fun k_ h1_ h2_ => by have q1_ := HN1.out; have q2_ := HN2.out; have q3_ := HN3.out; have q4_ := HN4.out; have q5_ := HN5.out; have q6_ := HN6.out; have q7_ := HN7.out; have q8_ := HN8.out; have q9_ := HN9.out; have q10_ := HN10.out; have q11_ := HN11.out; have q12_ := HN12.out; have q13_ := HN13.out; have q14_ := HN14.out; have q15_ := HN15.out; omega)); have m8_ := Aside0.mk (Kd.R_kept (by ((with_reducible repeat (first | apply Kd.R_alloc | apply Kd.R_drewN | apply Kd.R_drew)); exact HO41.out)) hk (fun k_ h1_ h2_ => by have q1_ := HN1.out; have q2_ := HN2.out; have q3_ := HN3.out; have q4_ := HN4.out; have q5_ := HN5.out; have q6_ := HN6.out; have q7_ := HN7.out; have q8_ := HN8.out; have q9_ := HN9.out; have q10_ := HN10.out; have q11_ := HN11.out; have q12_ := HN12.out; have q13_ := HN13.out; have q14_ := HN14.out; have q15_ := HN15.out; omega)); have mO_ := Aside0.mk (show Kd.R k56 56 w1063 w.heap.size (fun k_ => n8 ≤ k_ ∧ k_ < n9) (.slice Ao29 t13.length co29) y48 from Kd.R_mono (Kd.R_tight rfl ho_) (fun k_ hk_ => HO29.out.1 k_ hk_.symm)); have mL_ := Aside0.mk (by (repeat (first | exact HZ.out | (with_reducible first | apply sz_alloc | apply sz_drewN | apply sz_drew | apply sz_set))) : n15 ≤ _); have mZ_ := Aside0.mk (Nat.le_trans mL_.out hk.1 : n15 ≤ w1063.heap.size); have mB_ := Aside0.mk hb2_; clear BK3 BK10 HO11 HO15 HO20 HO24 HO32 HO37 HO41 HB HZ HO29; have BK3 := m0_; have BK10 := m1_; have HO11 := m2_; have HO15 := m3_; have HO20 := m4_; have HO24 := m5_; have HO32 := m6_; have HO37 := m7_; have HO41 := m8_; have HO29 := mO_; have HB := mB_; have HZ := mZ_; clear m0_ m1_ m2_ m3_ m4_ m5_ m6_ m7_ m8_ mO_ mB_ mZ_ mL_; clear ho_ hb2_ hk) | ((with_reducible refine gate_callee (f := 16) rfl ?_); refine goesL_ (some 89) rfl rfl Try.func16 (by kernel_rfl) rfl #[.slice Ao32 g16.length co32, .int .i64 1] rfl (by (try simp only [List.map_toArray, List.map_cons, List.map_nil]); first | done | rfl) ?_; (with_reducible refine (laws_markIntA2S.calls (fun k_ => n9 ≤ k_ ∧ k_ < n10) _ g16 1 m51 y52 w _ ?sideB ?sideO E17.out).mono ?_); (case sideB => exact (by (repeat (first | (with_reducible first | exact HB.out | apply below_alloc | apply pw_below_drewN | apply below_drew1 | refine below_set ?_ GE3.out | refine below_set ?_ GE10.out) | exact HB.out)))); (case sideO => exact (by ((with_reducible repeat (first | apply Kd.R_alloc | apply Kd.R_drewN | apply Kd.R_drew)); exact HO32.out))); rintro e w1069 ⟨rfl, ho_, hb2_, hk⟩; refine ⟨_, rfl, ?_⟩; have m0_ := Aside0.mk (blk_kept (g := gb3) (o := .cells #[.slice A0_0 l0_0.length c0_0] 24 (0, 0)) (by ((with_reducible repeat (first | refine blk_drewN ?_ _ | refine blk_drew ?_ | refine blk_alloc ?_ _)); exact BK3.out)) hk (fun h_ => by have h1_ := HI3.out; have q1_ := HN1.out; have q2_ := HN2.out; have q3_ := HN3.out; have q4_ := HN4.out; have q5_ := HN5.out; have q6_ := HN6.out; have q7_ := HN7.out; have q8_ := HN8.out; have q9_ := HN9.out; have q10_ := HN10.out; have q11_ := HN11.out; have q12_ := HN12.out; have q13_ := HN13.out; have q14_ := HN14.out; have q15_ := HN15.out; have q16_ := HN16.out; omega)); have m1_ := Aside0.mk (blk_kept (g := gb10) (o := .cells #[.slice Ao24 t9.length co24] 31 (0, 0)) (by ((with_reducible repeat (first | refine blk_drewN ?_ _ | refine blk_drew ?_ | refine blk_alloc ?_ _)); exact BK10.out)) hk (fun h_ => by have h1_ := HI10.out; have q1_ := HN1.out; have q2_ := HN2.out; have q3_ := HN3.out; have q4_ := HN4.out; have q5_ := HN5.out; have q6_ := HN6.out; have q7_ := HN7.out; have q8_ := HN8.out; have q9_ := HN9.out; have q10_ := HN10.out; have q11_ := HN11.out; have q12_ := HN12.out; have q13_ := HN13.out; have q14_ := HN14.out; have q15_ := HN15.out; have q16_ := HN16.out; omega)); have m2_ := Aside0.mk (Kd.S_kept (by ((with_reducible repeat (first | apply Kd.S_alloc | apply Kd.S_drewN | apply Kd.S_drew)); exact HO11.out)) hk (fun k_ h1_ h2_ => by have q1_ := HN1.out; have q2_ := HN2.out; have q3_ := HN3.out; have q4_ := HN4.out; have q5_ := HN5.out; have q6_ := HN6.out; have q7_ := HN7.out; have q8_ := HN8.out; have q9_ := HN9.out; have q10_ := HN10.out; have q11_ := HN11.out; have q12_ := HN12.out; have q13_ := HN13.out; have q14_ := HN14.out; have q15_ := HN15.out; have q16_ := HN16.out; omega)); have m3_ := Aside0.mk (Kd.R_kept (by ((with_reducible repeat (first | apply Kd.R_alloc | apply Kd.R_drewN | apply Kd.R_drew)); exact HO15.out)) hk (fun k_ h1_ h2_ => by have q1_ := HN1.out; have q2_ := HN2.out; have q3_ := HN3.out; have q4_ := HN4.out; have q5_ := HN5.out; have q6_ := HN6.out; have q7_ := HN7.out; have q8_ := HN8.out; have q9_ := HN9.out; have q10_ := HN10.out; have q11_ := HN11.out; have q12_ := HN12.out; have q13_ := HN13.out; have q14_ := HN14.out; have q15_ := HN15.out; have q16_ := HN16.out; omega)); have m4_ := Aside0.mk (Kd.R_kept (by ((with_reducible repeat (first | apply Kd.R_alloc | apply Kd.R_drewN | apply Kd.R_drew)); exact HO20.out)) hk (fun k_ h1_ h2_ => by have q1_ := HN1.out; have q2_ := HN2.out; have q3_ := HN3.out; have q4_ := HN4.out; have q5_ := HN5.out; have q6_ := HN6.out; have q7_ := HN7.out; have q8_ := HN8.out; have q9_ := HN9.out; have q10_ := HN10.out; have q11_ := HN11.out; have q12_ := HN12.out; have q13_ := HN13.out; have q14_ := HN14.out; have q15_ := HN15.out; have q16_ := HN16.out; omega)); have m5_ := Aside0.mk (Kd.S_kept (by ((with_reducible repeat (first | apply Kd.S_alloc | apply Kd.S_drewN | apply Kd.S_drew)); exact HO24.out)) hk (fun k_ h1_ h2_ => by have q1_ := HN1.out; have q2_ := HN2.out; have q3_ := HN3.out; have q4_ := HN4.out; have q5_ := HN5.out; have q6_ := HN6.out; have q7_ := HN7.out; have q8_ := HN8.out; have q9_ := HN9.out; have q10_ := HN10.out; have q11_ := HN11.out; have q12_ := HN12.out; have q13_ := HN13.out; have q14_ := HN14.out; have q15_ := HN15.out; have q16_ := HN16.out; omega)); have m6_ := Aside0.mk (Kd.R_kept (by ((with_reducible repeat (first | apply Kd.R_alloc | apply Kd.R_drewN | apply Kd.R_drew)); exact HO29.out)) hk (fun k_ h1_ h2_ => by have q1_ := HN1.out; have q2_ := HN2.out; have q3_ := HN3.out; have q4_ := HN4.out; have q5_ := HN5.out; have q6_ := HN6.out; have q7_ := HN7.out; have q8_ := HN8.out; have q9_ := HN9.out; have q10_ := HN10.out; have q11_ := HN11.out; have q12_ := HN12.out; have q13_ := HN13.out; have q14_ := HN14.out; have q15_ := HN15.out; have q16_ := HN16.out; omega)); have m7_ := Aside0.mk (Kd.S_kept (by ((with_reducible repeat (first | apply Kd.S_alloc | apply Kd.S_drewN | apply Kd.S_drew)); exact HO37.out)) hk (fun k_ h1_ h2_ => by have q1_ := HN1.out; have q2_ := HN2.out; have q3_ := HN3.out; have q4_ := HN4.out; have q5_ := HN5.out; have q6_ := HN6.out; have q7_ := HN7.out; have q8_ := HN8.out; have q9_ := HN9.out; have q10_ := HN10.out; have q11_ := HN11.out; have q12_ := HN12.out; have q13_ := HN13.out; have q14_ := HN14.out; have q15_ := HN15.out; have q16_ := HN16.out; omega)); have m8_ := Aside0.mk (Kd.R_kept (by ((with_reducible repeat (first | apply Kd.R_alloc | apply Kd.R_drewN | apply Kd.R_drew)); exact HO41.out)) hk (fun k_ h1_ h2_ => by have q1_ := HN1.out; have q2_ := HN2.out; have q3_ := HN3.out; have q4_ := HN4.out; have q5_ := HN5.out; have q6_ := HN6.out; have q7_ := HN7.out; have q8_ := HN8.out; have q9_ := HN9.out; have q10_ := HN10.out; have q11_ := HN11.out; have q12_ := HN12.out; have q13_ := HN13.out; have q14_ := HN14.out; have q15_ := HN15.out; have q16_ := HN16.out; omega)); have mO_ := Aside0.mk (show Kd.R kA2 53 w1069 w.heap.size (fun k_ => n9 ≤ k_ ∧ k_ < n10) (.slice Ao32 g16.length co32) y52 from Kd.R_mono (Kd.R_tight rfl ho_) (fun k_ hk_ => HO32.out.1 k_ hk_.symm)); have mL_ := Aside0.mk (by (repeat (first | exact HZ.out | (with_reducible first | apply sz_alloc | apply sz_drewN | apply sz_drew | apply sz_set))) : n16 ≤ _); have mZ_ := Aside0.mk (Nat.le_trans mL_.out hk.1 : n16 ≤ w1069.heap.size); have mB_ := Aside0.mk hb2_; clear BK3 BK10 HO11 HO15 HO20 HO24 HO29 HO37 HO41 HB HZ HO32; have BK3 := m0_; have BK10 := m1_; have HO11 := m2_; have HO15 := m3_; have HO20 := m4_; have HO24 := m5_; have HO29 := m6_; have HO37 := m7_; have HO41 := m8_; have HO32 := mO_; have HB := mB_; have HZ := mZ_; clear m0_ m1_ m2_ m3_ m4_ m5_ m6_ m7_ m8_ mO_ mB_ mZ_ mL_; clear ho_ hb2_ hk) | ((with_reducible refine gate_callee (f := 17) rfl ?_); refine goesL_ (some 92) rfl rfl Try.func17 (by kernel_rfl) rfl #[.slice Ao32 y52.length co32, .int .i64 1] rfl (by (try simp only [List.map_toArray, List.map_cons, List.map_nil]); first | done | (rw [show g16.length = y52.length from (Kd.R_reads' HO32.out).1] <;> rfl) | rfl) ?_; (with_reducible refine (laws_heldIntA2S.calls _ _ y52 1 m51 _ ?sr0 ?sc0 E18.out).mono ?_); (case sr0 => repeat (first | exact (Kd.R_reads' HO32.out).2.2 | (with_reducible refine Kd.C_alloc ?_ _) | (with_reducible refine Kd.C_drewN ?_ _) | (with_reducible refine Kd.C_drew ?_))); (case sc0 => first | exact (Kd.R_reads' HO32.out).2.1 | exact Nat.le_trans (Nat.le_of_eq (Kd.R_reads' HO32.out).1.symm) (Kd.R_reads' HO32.out).2.1); rintro e w1071 ⟨rfl, hb⟩; refine ⟨_, rfl, ?_⟩; have m0_ := Aside0.mk (blk_below (g := gb3) (o := .cells #[.slice A0_0 l0_0.length c0_0] 24 (0, 0)) (by ((with_reducible repeat (first | refine blk_drewN ?_ _ | refine blk_drew ?_ | refine blk_alloc ?_ _)); exact BK3.out)) hb); have m1_ := Aside0.mk (blk_below (g := gb10) (o := .cells #[.slice Ao24 t9.length co24] 31 (0, 0)) (by ((with_reducible repeat (first | refine blk_drewN ?_ _ | refine blk_drew ?_ | refine blk_alloc ?_ _)); exact BK10.out)) hb); have m2_ := Aside0.mk (Kd.S_below (by ((with_reducible repeat (first | apply Kd.S_alloc | apply Kd.S_drewN | apply Kd.S_drew)); exact HO11.out)) hb); have m3_ := Aside0.mk (Kd.R_below (by ((with_reducible repeat (first | apply Kd.R_alloc | apply Kd.R_drewN | apply Kd.R_drew)); exact HO15.out)) hb); have m4_ := Aside0.mk (Kd.R_below (by ((with_reducible repeat (first | apply Kd.R_alloc | apply Kd.R_drewN | apply Kd.R_drew)); exact HO20.out)) hb); have m5_ := Aside0.mk (Kd.S_below (by ((with_reducible repeat (first | apply Kd.S_alloc | apply Kd.S_drewN | apply Kd.S_drew)); exact HO24.out)) hb); have m6_ := Aside0.mk (Kd.R_below (by ((with_reducible repeat (first | apply Kd.R_alloc | apply Kd.R_drewN | apply Kd.R_drew)); exact HO29.out)) hb); have m7_ := Aside0.mk (Kd.R_below (by ((with_reducible repeat (first | apply Kd.R_alloc | apply Kd.R_drewN | apply Kd.R_drew)); exact HO32.out)) hb); have m8_ := Aside0.mk (Kd.S_below (by ((with_reducible repeat (first | apply Kd.S_alloc | apply Kd.S_drewN | apply Kd.S_drew)); exact HO37.out)) hb); have m9_ := Aside0.mk (Kd.R_below (by ((with_reducible repeat (first | apply Kd.R_alloc | apply Kd.R_drewN | apply Kd.R_drew)); exact HO41.out)) hb); have mB_ := Aside0.mk (below_step (by (repeat (first | (with_reducible first | exact HB.out | apply below_alloc | apply pw_below_drewN | apply below_drew1 | refine below_set ?_ GE3.out | refine below_set ?_ GE10.out) | exact HB.out))) hb); have mL_ := Aside0.mk (by (repeat (first | exact HZ.out | (with_reducible first | apply sz_alloc | apply sz_drewN | apply sz_drew | apply sz_set))) : n16 ≤ _); obtain ⟨n17, hn_⟩ : ∃ n_, n_ = w1071.heap.size := ⟨_, rfl⟩; have mN_ := Aside0.mk (by rw [hn_]; exact Nat.le_trans mL_.out hb.size : n16 ≤ n17); have mZ_ := Aside0.mk (Nat.le_of_eq hn_ : n17 ≤ w1071.heap.size); clear BK3 BK10 HO11 HO15 HO20 HO24 HO29 HO32 HO37 HO41 HB HZ; have BK3 := m0_; have BK10 := m1_; have HO11 := m2_; have HO15 := m3_; have HO20 := m4_; have HO24 := m5_; have HO29 := m6_; have HO32 := m7_; have HO37 := m8_; have HO41 := m9_; have HB := mB_; have HZ := mZ_; have HN17 := mN_; clear m0_ m1_ m2_ m3_ m4_ m5_ m6_ m7_ m8_ m9_ mB_ mN_ mZ_ mL_; (try clear hn_); clear hb; have hc55_0 := (blk_cell BK3.out 0).trans (show (#[.slice A0_0 l0_0.length c0_0] : Array Value)[0]? = some (.slice A0_0 l0_0.length c0_0) from rfl); have hf55_0 := blk_frozen BK3.out 0) | ((with_reducible refine gate_callee (f := 8) rfl ?_); refine goesL_ (some 100) rfl rfl Try.func8 (by kernel_rfl) rfl #[.agg #[.slice A0_0 l0_0.length c0_0]] rfl (by (try simp only [List.map_toArray, List.map_cons, List.map_nil]); first | done | rfl) ?_; (with_reducible refine (laws_toMemory.calls k _ _ l0_0 t9 _ ?sr0 ?sc0 E3.out).mono ?_); (case sr0 => exact Kd.C_below HR0_0.out (by (repeat (first | (with_reducible first | exact HB.out | apply below_alloc | apply pw_below_drewN | apply below_drew1 | refine below_set ?_ GE3.out | refine below_set ?_ GE10.out) | exact HB.out)))); (case sc0 => exact HC0_0.out); rintro e w1075 ⟨v19_0, rfl, ho0_, hb⟩; refine ⟨_, rfl, ?_⟩; have m0_ := Aside0.mk (blk_below (g := gb3) (o := .cells #[.slice A0_0 l0_0.length c0_0] 24 (0, 0)) (by ((with_reducible repeat (first | refine blk_drewN ?_ _ | refine blk_drew ?_ | refine blk_alloc ?_ _)); exact BK3.out)) hb); have m1_ := Aside0.mk (blk_below (g := gb10) (o := .cells #[.slice Ao24 t9.length co24] 31 (0, 0)) (by ((with_reducible repeat (first | refine blk_drewN ?_ _ | refine blk_drew ?_ | refine blk_alloc ?_ _)); exact BK10.out)) hb); have m2_ := Aside0.mk (Kd.S_below (by ((with_reducible repeat (first | apply Kd.S_alloc | apply Kd.S_drewN | apply Kd.S_drew)); exact HO11.out)) hb); have m3_ := Aside0.mk (Kd.R_below (by ((with_reducible repeat (first | apply Kd.R_alloc | apply Kd.R_drewN | apply Kd.R_drew)); exact HO15.out)) hb); have m4_ := Aside0.mk (Kd.R_below (by ((with_reducible repeat (first | apply Kd.R_alloc | apply Kd.R_drewN | apply Kd.R_drew)); exact HO20.out)) hb); have m5_ := Aside0.mk (Kd.S_below (by ((with_reducible repeat (first | apply Kd.S_alloc | apply Kd.S_drewN | apply Kd.S_drew)); exact HO24.out)) hb); have m6_ := Aside0.mk (Kd.R_below (by ((with_reducible repeat (first | apply Kd.R_alloc | apply Kd.R_drewN | apply Kd.R_drew)); exact HO29.out)) hb); have m7_ := Aside0.mk (Kd.R_below (by ((with_reducible repeat (first | apply Kd.R_alloc | apply Kd.R_drewN | apply Kd.R_drew)); exact HO32.out)) hb); have m8_ := Aside0.mk (Kd.S_below (by ((with_reducible repeat (first | apply Kd.S_alloc | apply Kd.S_drewN | apply Kd.S_drew)); exact HO37.out)) hb); have m9_ := Aside0.mk (Kd.R_below (by ((with_reducible repeat (first | apply Kd.R_alloc | apply Kd.R_drewN | apply Kd.R_drew)); exact HO41.out)) hb); have mB_ := Aside0.mk (below_step (by (repeat (first | (with_reducible first | exact HB.out | apply below_alloc | apply pw_below_drewN | apply below_drew1 | refine below_set ?_ GE3.out | refine below_set ?_ GE10.out) | exact HB.out))) hb); have mL_ := Aside0.mk (by (repeat (first | exact HZ.out | (with_reducible first | apply sz_alloc | apply sz_drewN | apply sz_drew | apply sz_set))) : n17 ≤ _); obtain ⟨n18, hn_⟩ : ∃ n_, n_ = w1075.heap.size := ⟨_, rfl⟩; have mN_ := Aside0.mk (by rw [hn_]; exact Nat.le_trans mL_.out hb.size : n17 ≤ n18); have mZ_ := Aside0.mk (Nat.le_of_eq hn_ : n18 ≤ w1075.heap.size); have xHO58_ := Aside0.mk (show Kd.S (Kd.slice 5 (Kd.int .u8)) 70 w1075 w.heap.size (fun k_ => n17 ≤ k_ ∧ k_ < n18) _ t9 from Kd.S_mono (Kd.S_lower (Kd.S_bound ho0_) (below_size (by (repeat (first | (with_reducible first | exact HB.out | apply below_alloc | apply pw_below_drewN | apply below_drew1 | refine below_set ?_ GE3.out | refine below_set ?_ GE10.out) | exact HB.out))))) (fun k_ hk_ => ⟨Nat.le_trans mL_.out hk_.2.1, by rw [hn_]; exact hk_.2.2.1⟩)); clear BK3 BK10 HO11 HO15 HO20 HO24 HO29 HO32 HO37 HO41 HB HZ; have BK3 := m0_; have BK10 := m1_; have HO11 := m2_; have HO15 := m3_; have HO20 := m4_; have HO24 := m5_; have HO29 := m6_; have HO32 := m7_; have HO37 := m8_; have HO41 := m9_; have HB := mB_; have HZ := mZ_; have HN18 := mN_; have HO58 := xHO58_; clear m0_ m1_ m2_ m3_ m4_ m5_ m6_ m7_ m8_ m9_ mB_ mN_ mZ_ mL_ xHO58_; (try clear hn_); clear hb ho0_; obtain ⟨Ao58, co58, eo_⟩ := Kd.S_slice HO58.out; subst eo_) | ((with_reducible refine gate_callee (f := 9) rfl ?_); refine goesL_ (some 102) rfl rfl Try.func9 (by kernel_rfl) rfl #[.slice A1 l1.length c1] rfl (by (try simp only [List.map_toArray, List.map_cons, List.map_nil]); first | done | rfl) ?_; (with_reducible refine (laws_toWindowS.calls k _ _ l1 t13 _ ?sr0 ?sc0 E4.out).mono ?_); (case sr0 => exact Kd.C_below HR1.out (by (repeat (first | (with_reducible first | exact HB.out | apply below_alloc | apply pw_below_drewN | apply below_drew1 | refine below_set ?_ GE3.out | refine below_set ?_ GE10.out) | exact HB.out)))); (case sc0 => exact HC1.out); rintro e w1079 ⟨v20_0, rfl, ho0_, hb⟩; refine ⟨_, rfl, ?_⟩; have m0_ := Aside0.mk (blk_below (g := gb3) (o := .cells #[.slice A0_0 l0_0.length c0_0] 24 (0, 0)) (by ((with_reducible repeat (first | refine blk_drewN ?_ _ | refine blk_drew ?_ | refine blk_alloc ?_ _)); exact BK3.out)) hb); have m1_ := Aside0.mk (blk_below (g := gb10) (o := .cells #[.slice Ao24 t9.length co24] 31 (0, 0)) (by ((with_reducible repeat (first | refine blk_drewN ?_ _ | refine blk_drew ?_ | refine blk_alloc ?_ _)); exact BK10.out)) hb); have m2_ := Aside0.mk (Kd.S_below (by ((with_reducible repeat (first | apply Kd.S_alloc | apply Kd.S_drewN | apply Kd.S_drew)); exact HO11.out)) hb); have m3_ := Aside0.mk (Kd.R_below (by ((with_reducible repeat (first | apply Kd.R_alloc | apply Kd.R_drewN | apply Kd.R_drew)); exact HO15.out)) hb); have m4_ := Aside0.mk (Kd.R_below (by ((with_reducible repeat (first | apply Kd.R_alloc | apply Kd.R_drewN | apply Kd.R_drew)); exact HO20.out)) hb); have m5_ := Aside0.mk (Kd.S_below (by ((with_reducible repeat (first | apply Kd.S_alloc | apply Kd.S_drewN | apply Kd.S_drew)); exact HO24.out)) hb); have m6_ := Aside0.mk (Kd.R_below (by ((with_reducible repeat (first | apply Kd.R_alloc | apply Kd.R_drewN | apply Kd.R_drew)); exact HO29.out)) hb); have m7_ := Aside0.mk (Kd.R_below (by ((with_reducible repeat (first | apply Kd.R_alloc | apply Kd.R_drewN | apply Kd.R_drew)); exact HO32.out)) hb); have m8_ := Aside0.mk (Kd.S_below (by ((with_reducible repeat (first | apply Kd.S_alloc | apply Kd.S_drewN | apply Kd.S_drew)); exact HO37.out)) hb); have m9_ := Aside0.mk (Kd.R_below (by ((with_reducible repeat (first | apply Kd.R_alloc | apply Kd.R_drewN | apply Kd.R_drew)); exact HO41.out)) hb); have m10_ := Aside0.mk (Kd.S_below (by ((with_reducible repeat (first | apply Kd.S_alloc | apply Kd.S_drewN | apply Kd.S_drew)); exact HO58.out)) hb); have mB_ := Aside0.mk (below_step (by (repeat (first | (with_reducible first | exact HB.out | apply below_alloc | apply pw_below_drewN | apply below_drew1 | refine below_set ?_ GE3.out | refine below_set ?_ GE10.out) | exact HB.out))) hb); have mL_ := Aside0.mk (by (repeat (first | exact HZ.out | (with_reducible first | apply sz_alloc | apply sz_drewN | apply sz_drew | apply sz_set))) : n18 ≤ _); obtain ⟨n19, hn_⟩ : ∃ n_, n_ = w1079.heap.size := ⟨_, rfl⟩; have mN_ := Aside0.mk (by rw [hn_]; exact Nat.le_trans mL_.out hb.size : n18 ≤ n19); have mZ_ := Aside0.mk (Nat.le_of_eq hn_ : n19 ≤ w1079.heap.size); have xHO61_ := Aside0.mk (show Kd.R k56 56 w1079 w.heap.size (fun k_ => n18 ≤ k_ ∧ k_ < n19) _ t13 from Kd.R_mono (Kd.R_lower (Kd.R_bound ho0_) (below_size (by (repeat (first | (with_reducible first | exact HB.out | apply below_alloc | apply pw_below_drewN | apply below_drew1 | refine below_set ?_ GE3.out | refine below_set ?_ GE10.out) | exact HB.out))))) (fun k_ hk_ => ⟨Nat.le_trans mL_.out hk_.2.1, by rw [hn_]; exact hk_.2.2.1⟩)); clear BK3 BK10 HO11 HO15 HO20 HO24 HO29 HO32 HO37 HO41 HO58 HB HZ; have BK3 := m0_; have BK10 := m1_; have HO11 := m2_; have HO15 := m3_; have HO20 := m4_; have HO24 := m5_; have HO29 := m6_; have HO32 := m7_; have HO37 := m8_; have HO41 := m9_; have HO58 := m10_; have HB := mB_; have HZ := mZ_; have HN19 := mN_; have HO61 := xHO61_; clear m0_ m1_ m2_ m3_ m4_ m5_ m6_ m7_ m8_ m9_ m10_ mB_ mN_ mZ_ mL_ xHO61_; (try clear hn_); clear hb ho0_; obtain ⟨Ao61, co61, eo_⟩ := Kd.R_slice HO61.out; subst eo_) | ((with_reducible refine gate_callee (f := 10) rfl ?_); refine goesL_ (some 104) rfl rfl Try.func10 (by kernel_rfl) rfl #[.agg #[.slice Ao58 t9.length co58], .slice Ao61 t13.length co61, .int .i64 a2] rfl (by (try simp only [List.map_toArray, List.map_cons, List.map_nil]); first | done | rfl) ?_; (with_reducible refine (impl_PartCover.calls k _ _ t9 _ _ t13 a2 g16 ok17 _ ?sr0 ?sc0 ?sr1 ?sc1 E8.out).mono ?_); (case sr0 => repeat (first | exact (Kd.S_reads' HO58.out).2.2 | (with_reducible refine Kd.C_alloc ?_ _) | (with_reducible refine Kd.C_drewN ?_ _) | (with_reducible refine Kd.C_drew ?_))); (case sc0 => first | exact (Kd.S_reads' HO58.out).2.1 | exact Nat.le_trans (Nat.le_of_eq (Kd.S_reads' HO58.out).1.symm) (Kd.S_reads' HO58.out).2.1); (case sr1 => repeat (first | exact (Kd.R_reads' HO61.out).2.2 | (with_reducible refine Kd.C_alloc ?_ _) | (with_reducible refine Kd.C_drewN ?_ _) | (with_reducible refine Kd.C_drew ?_))); (case sc1 => first | exact (Kd.R_reads' HO61.out).2.1 | exact Nat.le_trans (Nat.le_of_eq (Kd.R_reads' HO61.out).1.symm) (Kd.R_reads' HO61.out).2.1); rintro e w1082 ⟨v21_0, rfl, ho0_, hb⟩; refine ⟨_, rfl, ?_⟩; have m0_ := Aside0.mk (blk_below (g := gb3) (o := .cells #[.slice A0_0 l0_0.length c0_0] 24 (0, 0)) (by ((with_reducible repeat (first | refine blk_drewN ?_ _ | refine blk_drew ?_ | refine blk_alloc ?_ _)); exact BK3.out)) hb); have m1_ := Aside0.mk (blk_below (g := gb10) (o := .cells #[.slice Ao24 t9.length co24] 31 (0, 0)) (by ((with_reducible repeat (first | refine blk_drewN ?_ _ | refine blk_drew ?_ | refine blk_alloc ?_ _)); exact BK10.out)) hb); have m2_ := Aside0.mk (Kd.S_below (by ((with_reducible repeat (first | apply Kd.S_alloc | apply Kd.S_drewN | apply Kd.S_drew)); exact HO11.out)) hb); have m3_ := Aside0.mk (Kd.R_below (by ((with_reducible repeat (first | apply Kd.R_alloc | apply Kd.R_drewN | apply Kd.R_drew)); exact HO15.out)) hb); have m4_ := Aside0.mk (Kd.R_below (by ((with_reducible repeat (first | apply Kd.R_alloc | apply Kd.R_drewN | apply Kd.R_drew)); exact HO20.out)) hb); have m5_ := Aside0.mk (Kd.S_below (by ((with_reducible repeat (first | apply Kd.S_alloc | apply Kd.S_drewN | apply Kd.S_drew)); exact HO24.out)) hb); have m6_ := Aside0.mk (Kd.R_below (by ((with_reducible repeat (first | apply Kd.R_alloc | apply Kd.R_drewN | apply Kd.R_drew)); exact HO29.out)) hb); have m7_ := Aside0.mk (Kd.R_below (by ((with_reducible repeat (first | apply Kd.R_alloc | apply Kd.R_drewN | apply Kd.R_drew)); exact HO32.out)) hb); have m8_ := Aside0.mk (Kd.S_below (by ((with_reducible repeat (first | apply Kd.S_alloc | apply Kd.S_drewN | apply Kd.S_drew)); exact HO37.out)) hb); have m9_ := Aside0.mk (Kd.R_below (by ((with_reducible repeat (first | apply Kd.R_alloc | apply Kd.R_drewN | apply Kd.R_drew)); exact HO41.out)) hb); have m10_ := Aside0.mk (Kd.S_below (by ((with_reducible repeat (first | apply Kd.S_alloc | apply Kd.S_drewN | apply Kd.S_drew)); exact HO58.out)) hb); have m11_ := Aside0.mk (Kd.R_below (by ((with_reducible repeat (first | apply Kd.R_alloc | apply Kd.R_drewN | apply Kd.R_drew)); exact HO61.out)) hb); have mB_ := Aside0.mk (below_step (by (repeat (first | (with_reducible first | exact HB.out | apply below_alloc | apply pw_below_drewN | apply below_drew1 | refine below_set ?_ GE3.out | refine below_set ?_ GE10.out) | exact HB.out))) hb); have mL_ := Aside0.mk (by (repeat (first | exact HZ.out | (with_reducible first | apply sz_alloc | apply sz_drewN | apply sz_drew | apply sz_set))) : n19 ≤ _); obtain ⟨n20, hn_⟩ : ∃ n_, n_ = w1082.heap.size := ⟨_, rfl⟩; have mN_ := Aside0.mk (by rw [hn_]; exact Nat.le_trans mL_.out hb.size : n19 ≤ n20); have mZ_ := Aside0.mk (Nat.le_of_eq hn_ : n20 ≤ w1082.heap.size); have xHO63_ := Aside0.mk (show Kd.R kA2 53 w1082 w.heap.size (fun k_ => n19 ≤ k_ ∧ k_ < n20) _ g16 from Kd.R_mono (Kd.R_lower (Kd.R_bound ho0_) (below_size (by (repeat (first | (with_reducible first | exact HB.out | apply below_alloc | apply pw_below_drewN | apply below_drew1 | refine below_set ?_ GE3.out | refine below_set ?_ GE10.out) | exact HB.out))))) (fun k_ hk_ => ⟨Nat.le_trans mL_.out hk_.2.1, by rw [hn_]; exact hk_.2.2.1⟩)); clear BK3 BK10 HO11 HO15 HO20 HO24 HO29 HO32 HO37 HO41 HO58 HO61 HB HZ; have BK3 := m0_; have BK10 := m1_; have HO11 := m2_; have HO15 := m3_; have HO20 := m4_; have HO24 := m5_; have HO29 := m6_; have HO32 := m7_; have HO37 := m8_; have HO41 := m9_; have HO58 := m10_; have HO61 := m11_; have HB := mB_; have HZ := mZ_; have HN20 := mN_; have HO63 := xHO63_; clear m0_ m1_ m2_ m3_ m4_ m5_ m6_ m7_ m8_ m9_ m10_ m11_ mB_ mN_ mZ_ mL_ xHO63_; (try clear hn_); clear hb ho0_; obtain ⟨Ao63, co63, eo_⟩ := Kd.R_slice HO63.out; subst eo_) | ((with_reducible refine gate_callee (f := 11) rfl ?_); refine goesL_ (some 109) rfl rfl Try.func11 (by kernel_rfl) rfl #[.slice Ao63 g16.length co63, .slice Ao20 s18.length co20] rfl (by (try simp only [List.map_toArray, List.map_cons, List.map_nil]); first | done | rfl) ?_; (with_reducible refine (laws_eqIntA2S.calls _ _ g16 _ _ s18 true _ ?sr0 ?sc0 ?sr1 ?sc1 E9.out).mono ?_); (case sr0 => repeat (first | exact (Kd.R_reads' HO63.out).2.2 | (with_reducible refine Kd.C_alloc ?_ _) | (with_reducible refine Kd.C_drewN ?_ _) | (with_reducible refine Kd.C_drew ?_))); (case sc0 => first | exact (Kd.R_reads' HO63.out).2.1 | exact Nat.le_trans (Nat.le_of_eq (Kd.R_reads' HO63.out).1.symm) (Kd.R_reads' HO63.out).2.1); (case sr1 => repeat (first | exact (Kd.R_reads' HO20.out).2.2 | (with_reducible refine Kd.C_alloc ?_ _) | (with_reducible refine Kd.C_drewN ?_ _) | (with_reducible refine Kd.C_drew ?_))); (case sc1 => first | exact (Kd.R_reads' HO20.out).2.1 | exact Nat.le_trans (Nat.le_of_eq (Kd.R_reads' HO20.out).1.symm) (Kd.R_reads' HO20.out).2.1); rintro e w1085 ⟨rfl, hb⟩; refine ⟨_, rfl, ?_⟩; have m0_ := Aside0.mk (blk_below (g := gb3) (o := .cells #[.slice A0_0 l0_0.length c0_0] 24 (0, 0)) (by ((with_reducible repeat (first | refine blk_drewN ?_ _ | refine blk_drew ?_ | refine blk_alloc ?_ _)); exact BK3.out)) hb); have m1_ := Aside0.mk (blk_below (g := gb10) (o := .cells #[.slice Ao24 t9.length co24] 31 (0, 0)) (by ((with_reducible repeat (first | refine blk_drewN ?_ _ | refine blk_drew ?_ | refine blk_alloc ?_ _)); exact BK10.out)) hb); have m2_ := Aside0.mk (Kd.S_below (by ((with_reducible repeat (first | apply Kd.S_alloc | apply Kd.S_drewN | apply Kd.S_drew)); exact HO11.out)) hb); have m3_ := Aside0.mk (Kd.R_below (by ((with_reducible repeat (first | apply Kd.R_alloc | apply Kd.R_drewN | apply Kd.R_drew)); exact HO15.out)) hb); have m4_ := Aside0.mk (Kd.R_below (by ((with_reducible repeat (first | apply Kd.R_alloc | apply Kd.R_drewN | apply Kd.R_drew)); exact HO20.out)) hb); have m5_ := Aside0.mk (Kd.S_below (by ((with_reducible repeat (first | apply Kd.S_alloc | apply Kd.S_drewN | apply Kd.S_drew)); exact HO24.out)) hb); have m6_ := Aside0.mk (Kd.R_below (by ((with_reducible repeat (first | apply Kd.R_alloc | apply Kd.R_drewN | apply Kd.R_drew)); exact HO29.out)) hb); have m7_ := Aside0.mk (Kd.R_below (by ((with_reducible repeat (first | apply Kd.R_alloc | apply Kd.R_drewN | apply Kd.R_drew)); exact HO32.out)) hb); have m8_ := Aside0.mk (Kd.S_below (by ((with_reducible repeat (first | apply Kd.S_alloc | apply Kd.S_drewN | apply Kd.S_drew)); exact HO37.out)) hb); have m9_ := Aside0.mk (Kd.R_below (by ((with_reducible repeat (first | apply Kd.R_alloc | apply Kd.R_drewN | apply Kd.R_drew)); exact HO41.out)) hb); have m10_ := Aside0.mk (Kd.S_below (by ((with_reducible repeat (first | apply Kd.S_alloc | apply Kd.S_drewN | apply Kd.S_drew)); exact HO58.out)) hb); have m11_ := Aside0.mk (Kd.R_below (by ((with_reducible repeat (first | apply Kd.R_alloc | apply Kd.R_drewN | apply Kd.R_drew)); exact HO61.out)) hb); have m12_ := Aside0.mk (Kd.R_below (by ((with_reducible repeat (first | apply Kd.R_alloc | apply Kd.R_drewN | apply Kd.R_drew)); exact HO63.out)) hb); have mB_ := Aside0.mk (below_step (by (repeat (first | (with_reducible first | exact HB.out | apply below_alloc | apply pw_below_drewN | apply below_drew1 | refine below_set ?_ GE3.out | refine below_set ?_ GE10.out) | exact HB.out))) hb); have mL_ := Aside0.mk (by (repeat (first | exact HZ.out | (with_reducible first | apply sz_alloc | apply sz_drewN | apply sz_drew | apply sz_set))) : n20 ≤ _); obtain ⟨n21, hn_⟩ : ∃ n_, n_ = w1085.heap.size := ⟨_, rfl⟩; have mN_ := Aside0.mk (by rw [hn_]; exact Nat.le_trans mL_.out hb.size : n20 ≤ n21); have mZ_ := Aside0.mk (Nat.le_of_eq hn_ : n21 ≤ w1085.heap.size); clear BK3 BK10 HO11 HO15 HO20 HO24 HO29 HO32 HO37 HO41 HO58 HO61 HO63 HB HZ; have BK3 := m0_; have BK10 := m1_; have HO11 := m2_; have HO15 := m3_; have HO20 := m4_; have HO24 := m5_; have HO29 := m6_; have HO32 := m7_; have HO37 := m8_; have HO41 := m9_; have HO58 := m10_; have HO61 := m11_; have HO63 := m12_; have HB := mB_; have HZ := mZ_; have HN21 := mN_; clear m0_ m1_ m2_ m3_ m4_ m5_ m6_ m7_ m8_ m9_ m10_ m11_ m12_ mB_ mN_ mZ_ mL_; (try clear hn_); clear hb) | ((with_reducible refine gate_callee (f := 17) rfl ?_); refine goesL_ (some 118) rfl rfl Try.func17 (by kernel_rfl) rfl #[.slice Ao32 y52.length co32, .int .i64 1] rfl (by (try simp only [List.map_toArray, List.map_cons, List.map_nil]); first | done | (rw [show g16.length = y52.length from (Kd.R_reads' HO32.out).1] <;> rfl) | rfl) ?_; (with_reducible refine (laws_heldIntA2S.calls _ _ y52 1 m51 _ ?sr0 ?sc0 E18.out).mono ?_); (case sr0 => repeat (first | exact (Kd.R_reads' HO32.out).2.2 | (with_reducible refine Kd.C_alloc ?_ _) | (with_reducible refine Kd.C_drewN ?_ _) | (with_reducible refine Kd.C_drew ?_))); (case sc0 => first | exact (Kd.R_reads' HO32.out).2.1 | exact Nat.le_trans (Nat.le_of_eq (Kd.R_reads' HO32.out).1.symm) (Kd.R_reads' HO32.out).2.1); rintro e w1087 ⟨rfl, hb⟩; refine ⟨_, rfl, ?_⟩; have m0_ := Aside0.mk (blk_below (g := gb3) (o := .cells #[.slice A0_0 l0_0.length c0_0] 24 (0, 0)) (by ((with_reducible repeat (first | refine blk_drewN ?_ _ | refine blk_drew ?_ | refine blk_alloc ?_ _)); exact BK3.out)) hb); have m1_ := Aside0.mk (blk_below (g := gb10) (o := .cells #[.slice Ao24 t9.length co24] 31 (0, 0)) (by ((with_reducible repeat (first | refine blk_drewN ?_ _ | refine blk_drew ?_ | refine blk_alloc ?_ _)); exact BK10.out)) hb); have m2_ := Aside0.mk (Kd.S_below (by ((with_reducible repeat (first | apply Kd.S_alloc | apply Kd.S_drewN | apply Kd.S_drew)); exact HO11.out)) hb); have m3_ := Aside0.mk (Kd.R_below (by ((with_reducible repeat (first | apply Kd.R_alloc | apply Kd.R_drewN | apply Kd.R_drew)); exact HO15.out)) hb); have m4_ := Aside0.mk (Kd.R_below (by ((with_reducible repeat (first | apply Kd.R_alloc | apply Kd.R_drewN | apply Kd.R_drew)); exact HO20.out)) hb); have m5_ := Aside0.mk (Kd.S_below (by ((with_reducible repeat (first | apply Kd.S_alloc | apply Kd.S_drewN | apply Kd.S_drew)); exact HO24.out)) hb); have m6_ := Aside0.mk (Kd.R_below (by ((with_reducible repeat (first | apply Kd.R_alloc | apply Kd.R_drewN | apply Kd.R_drew)); exact HO29.out)) hb); have m7_ := Aside0.mk (Kd.R_below (by ((with_reducible repeat (first | apply Kd.R_alloc | apply Kd.R_drewN | apply Kd.R_drew)); exact HO32.out)) hb); have m8_ := Aside0.mk (Kd.S_below (by ((with_reducible repeat (first | apply Kd.S_alloc | apply Kd.S_drewN | apply Kd.S_drew)); exact HO37.out)) hb); have m9_ := Aside0.mk (Kd.R_below (by ((with_reducible repeat (first | apply Kd.R_alloc | apply Kd.R_drewN | apply Kd.R_drew)); exact HO41.out)) hb); have m10_ := Aside0.mk (Kd.S_below (by ((with_reducible repeat (first | apply Kd.S_alloc | apply Kd.S_drewN | apply Kd.S_drew)); exact HO58.out)) hb); have m11_ := Aside0.mk (Kd.R_below (by ((with_reducible repeat (first | apply Kd.R_alloc | apply Kd.R_drewN | apply Kd.R_drew)); exact HO61.out)) hb); have m12_ := Aside0.mk (Kd.R_below (by ((with_reducible repeat (first | apply Kd.R_alloc | apply Kd.R_drewN | apply Kd.R_drew)); exact HO63.out)) hb); have mB_ := Aside0.mk (below_step (by (repeat (first | (with_reducible first | exact HB.out | apply below_alloc | apply pw_below_drewN | apply below_drew1 | refine below_set ?_ GE3.out | refine below_set ?_ GE10.out) | exact HB.out))) hb); have mL_ := Aside0.mk (by (repeat (first | exact HZ.out | (with_reducible first | apply sz_alloc | apply sz_drewN | apply sz_drew | apply sz_set))) : n21 ≤ _); obtain ⟨n22, hn_⟩ : ∃ n_, n_ = w1087.heap.size := ⟨_, rfl⟩; have mN_ := Aside0.mk (by rw [hn_]; exact Nat.le_trans mL_.out hb.size : n21 ≤ n22); have mZ_ := Aside0.mk (Nat.le_of_eq hn_ : n22 ≤ w1087.heap.size); clear BK3 BK10 HO11 HO15 HO20 HO24 HO29 HO32 HO37 HO41 HO58 HO61 HO63 HB HZ; have BK3 := m0_; have BK10 := m1_; have HO11 := m2_; have HO15 := m3_; have HO20 := m4_; have HO24 := m5_; have HO29 := m6_; have HO32 := m7_; have HO37 := m8_; have HO41 := m9_; have HO58 := m10_; have HO61 := m11_; have HO63 := m12_; have HB := mB_; have HZ := mZ_; have HN22 := mN_; clear m0_ m1_ m2_ m3_ m4_ m5_ m6_ m7_ m8_ m9_ m10_ m11_ m12_ mB_ mN_ mZ_ mL_; (try clear hn_); clear hb) | (go_at_call 11; (with_reducible refine (laws_eqIntA2S.calls _ _ g16 _ _ s18 true _ ?sr0 ?sc0 ?sr1 ?sc1 E9.out).mono ?_); (case sr0 => repeat (first | exact (Kd.R_reads' HO32.out).2.2 | (with_reducible refine Kd.C_alloc ?_ _) | (with_reducible refine Kd.C_drewN ?_ _) | (with_reducible refine Kd.C_drew ?_))); (case sc0 => first | exact (Kd.R_reads' HO32.out).2.1 | exact Nat.le_trans (Nat.le_of_eq (Kd.R_reads' HO32.out).1.symm) (Kd.R_reads' HO32.out).2.1); (case sr1 => repeat (first | exact (Kd.R_reads' HO20.out).2.2 | (with_reducible refine Kd.C_alloc ?_ _) | (with_reducible refine Kd.C_drewN ?_ _) | (with_reducible refine Kd.C_drew ?_))); (case sc1 => first | exact (Kd.R_reads' HO20.out).2.1 | exact Nat.le_trans (Nat.le_of_eq (Kd.R_reads' HO20.out).1.symm) (Kd.R_reads' HO20.out).2.1); rintro e w1065 ⟨rfl, hb⟩; have m0_ := Aside0.mk (blk_below (g := gb3) (o := .cells #[.slice A0_0 l0_0.length c0_0] 24 (0, 0)) (by ((with_reducible repeat (first | refine blk_drewN ?_ _ | refine blk_drew ?_ | refine blk_alloc ?_ _)); exact BK3.out)) hb); have m1_ := Aside0.mk (blk_below (g := gb10) (o := .cells #[.slice Ao24 t9.length co24] 31 (0, 0)) (by ((with_reducible repeat (first | refine blk_drewN ?_ _ | refine blk_drew ?_ | refine blk_alloc ?_ _)); exact BK10.out)) hb); have m2_ := Aside0.mk (Kd.S_below (by ((with_reducible repeat (first | apply Kd.S_alloc | apply Kd.S_drewN | apply Kd.S_drew)); exact HO11.out)) hb); have m3_ := Aside0.mk (Kd.R_below (by ((with_reducible repeat (first | apply Kd.R_alloc | apply Kd.R_drewN | apply Kd.R_drew)); exact HO15.out)) hb); have m4_ := Aside0.mk (Kd.R_below (by ((with_reducible repeat (first | apply Kd.R_alloc | apply Kd.R_drewN | apply Kd.R_drew)); exact HO20.out)) hb); have m5_ := Aside0.mk (Kd.S_below (by ((with_reducible repeat (first | apply Kd.S_alloc | apply Kd.S_drewN | apply Kd.S_drew)); exact HO24.out)) hb); have m6_ := Aside0.mk (Kd.R_below (by ((with_reducible repeat (first | apply Kd.R_alloc | apply Kd.R_drewN | apply Kd.R_drew)); exact HO29.out)) hb); have m7_ := Aside0.mk (Kd.R_below (by ((with_reducible repeat (first | apply Kd.R_alloc | apply Kd.R_drewN | apply Kd.R_drew)); exact HO32.out)) hb); have m8_ := Aside0.mk (Kd.S_below (by ((with_reducible repeat (first | apply Kd.S_alloc | apply Kd.S_drewN | apply Kd.S_drew)); exact HO37.out)) hb); have m9_ := Aside0.mk (Kd.R_below (by ((with_reducible repeat (first | apply Kd.R_alloc | apply Kd.R_drewN | apply Kd.R_drew)); exact HO41.out)) hb); have mB_ := Aside0.mk (below_step (by (repeat (first | (with_reducible first | exact HB.out | apply below_alloc | apply pw_below_drewN | apply below_drew1 | refine below_set ?_ GE3.out | refine below_set ?_ GE10.out) | exact HB.out))) hb); have mL_ := Aside0.mk (by (repeat (first | exact HZ.out | (with_reducible first | apply sz_alloc | apply sz_drewN | apply sz_drew | apply sz_set))) : n15 ≤ _); obtain ⟨n16, hn_⟩ : ∃ n_, n_ = w1065.heap.size := ⟨_, rfl⟩; have mN_ := Aside0.mk (by rw [hn_]; exact Nat.le_trans mL_.out hb.size : n15 ≤ n16); have mZ_ := Aside0.mk (Nat.le_of_eq hn_ : n16 ≤ w1065.heap.size); clear BK3 BK10 HO11 HO15 HO20 HO24 HO29 HO32 HO37 HO41 HB HZ; have BK3 := m0_; have BK10 := m1_; have HO11 := m2_; have HO15 := m3_; have HO20 := m4_; have HO24 := m5_; have HO29 := m6_; have HO32 := m7_; have HO37 := m8_; have HO41 := m9_; have HB := mB_; have HZ := mZ_; have HN16 := mN_; clear m0_ m1_ m2_ m3_ m4_ m5_ m6_ m7_ m8_ m9_ mB_ mN_ mZ_ mL_; (try clear hn_); clear hb))
  go_ret
  exact ⟨rfl, by (repeat (first | (with_reducible first | exact HB.out | apply below_alloc | apply pw_below_drewN | apply below_drew1 | refine below_set ?_ GE3.out | refine below_set ?_ GE10.out) | exact HB.out))⟩
end Go.Proofs.Ytiiocpeeobjlgaa.P
end
section
namespace Go.Proofs.Ytiiocpeeobjlgaa.P
open Go.RowKit Go.Deep Go.Joins Go.WideShapes Go.ChangeShapes Go.ChangeAt Go.Proofs.YtiiocpeeobjlgaaW.PrintWords Go.Proofs.YtiiocpeeobjlgaaW.PrintLast Go.Proofs.YtiiocpeeobjlgaaW.PrintMore
set_option linter.unusedVariables false
set_option linter.unusedSectionVars false
section
variable {H : Type} {enc : TypeId × Value → H} {P : Program} {w : World} {base : Nat} {spare : Nat → Bool} {held : Bool}
theorem opn_int {t : TypeId} {k : IntKind} {n : Nat} {cs : List Value} {x : DataW H × List MemPlace} (ht : P.underlying t = some (.int k)) (h : DataW.trod enc P w base spare held n t cs = some x) :
    ∃ a : Int, (Kd.int k).K w a cs ∧ (Lit.int k a).wf = true := by
  obtain ⟨a, e, _, hw⟩ := DataW.trod_int ht h
  exact ⟨a, e, hw⟩
theorem opn_slice {α : Type} [Inhabited α] {d : Kd α} {Q : α → Prop} {t e : TypeId} {n : Nat} {cs : List Value} {x : DataW H × List MemPlace} (ht : P.underlying t = some (.slice e)) (hsz : P.cellsOf e = d.sz)
    (hel : ∀ n cs y, DataW.trod enc P w base spare held n e cs = some y → ∃ a, d.K w a cs ∧ Q a) (h : DataW.trod enc P w base spare held n t cs = some x) :
    ∃ l : List α, (Kd.slice e d).K w l cs ∧ (l.length ≤ 9223372036854775807 ∧ ∀ a ∈ l, Q a) := by
  rcases open_slice ht h with ⟨rfl, _⟩ | ⟨a, len, cap, m, n', D, Pl, rfl, hb, hl, hm, hmm, rfl, hx⟩
  · exact ⟨[], ⟨none, 0, rfl, Nat.le_refl _, Kd.C_nil d w⟩, by simp, by simp⟩
  · have hlm : len ≤ m := by rw [hmm]; split <;> omega
    have hmax : len ≤ 9223372036854775807 := by simp only [maxLen] at hm; omega
    have each : ∀ i, i < len → ∃ y : α, (∃ c, c.length = d.sz ∧ d.K w y c ∧ ∀ j u, c[j]? = some u → w.cell? (a.add (i * d.sz + j)) = some u) ∧ Q y := by
      intro i hi
      obtain ⟨cs', h1, h2⟩ := hx i (by omega)
      obtain ⟨y, hK, hQ⟩ := hel _ _ _ h2
      obtain ⟨_, hlen, hc⟩ := World.cells?_some h1
      rw [hsz] at hlen hc
      refine ⟨y, ⟨cs', hlen, hK, fun j u hu => ?_⟩, hQ⟩
      have hj : j < d.sz := by rw [← hlen]; exact (List.getElem?_eq_some_iff.1 hu).1
      rw [← hu, ← hc j hj, Addr.add_add]
    obtain ⟨f, hf⟩ := choose_lt each
    have hlen : ((List.range len).map f).length = len := by simp
    refine ⟨(List.range len).map f, ⟨some a, cap, by rw [hlen], by rw [hlen]; exact hl, rfl, by rw [hlen]; exact hmax, fun _ => ⟨a, rfl, fun j p hj => ?_⟩⟩, by rw [hlen]; exact hmax, fun y hy => ?_⟩
    · have hjl : j < len := by have := (List.getElem?_eq_some_iff.1 hj).1; omega
      have hp : f j = p := by simpa [List.getElem?_range hjl] using hj
      subst hp
      obtain ⟨c, h1, h2, h3⟩ := (hf j hjl).1
      exact ⟨c, h1, h2, h3⟩
    · obtain ⟨i, hi, rfl⟩ := List.mem_map.1 hy
      exact (hf i (List.mem_range.1 hi)).2
theorem byval1 {r : Reach} {b0 : Nat} {t : TypeId} {f0 : Field} {v : Value} {d : DataW H} {p : List MemPlace} (hs : P.underlying t = some (.struct #[f0])) (hone : oneCellFields P #[f0] = true) (hC : P.cellsOf t = 1)
    (hv : Value.okWide P w r b0 t v) (h : DataW.Trod enc P w base spare held t v d p) :
    ∃ (v0 : Value) (y0 : DataW H × List MemPlace) (n : Nat), v = .agg #[v0] ∧ DataW.trod enc P w base spare held n f0.type [v0] = some y0 := by
  obtain ⟨cs, rfl, hsz⟩ := okWide_struct hs hv
  obtain ⟨c0, rfl⟩ : ∃ c0, cs = #[c0] := by
    obtain ⟨l⟩ := cs
    match l, hsz.trans hC with
    | [c0], _ => exact ⟨c0, rfl⟩
  obtain ⟨fuel, hf⟩ := h
  obtain ⟨y0, n, _, _, h0⟩ := trod_struct1 hs hf
  obtain ⟨o0, k0⟩ := hone_of hone 0 f0 rfl
  exact ⟨c0, y0, n, rfl, by simpa [Value.cells, o0, k0] using h0⟩
instance : Inhabited S56 := ⟨⟨0, 0, 0, 0⟩⟩
instance : Inhabited S58 := ⟨⟨0, 0, 0, 0⟩⟩
set_option maxRecDepth 100000 in
theorem opn_S58 {w : World} {n : Nat} {cs : List Value} {y : DataW H × List MemPlace} (h : DataW.trod enc Try.prog w base spare held n 58 cs = some y) : ∃ x : S58, k58.K w x cs ∧ (fun x : S58 => (fun x => (Lit.int .i64 x).wf = true) x.f0 ∧ (fun x => (Lit.int .i64 x).wf = true) x.f1 ∧ (fun x => (Lit.int .i64 x).wf = true) x.f2 ∧ (fun x => (Lit.int .i64 x).wf = true) x.f3) x := by
  obtain ⟨y0, y1, y2, y3, m, _, hl, h0, h1, h2, h3⟩ := trod_struct4 Try.underlying58 h
  have hl' : cs.length = 4 := hl.trans (by kernel_rfl)
  have cc3 : Try.prog.cellsOf 3 = 1 := by kernel_rfl
  match cs, hl' with
  | [c0, c1, c2, c3], _ =>
  simp only [cc3, List.drop_zero, List.drop_succ_cons, List.take_succ_cons, List.take_zero] at h0 h1 h2 h3
  obtain ⟨a0, e0, w0⟩ := opn_int Try.underlying3 h0
  replace e0 := List.head_eq_of_cons_eq e0
  subst e0
  obtain ⟨a1, e1, w1⟩ := opn_int Try.underlying3 h1
  replace e1 := List.head_eq_of_cons_eq e1
  subst e1
  obtain ⟨a2, e2, w2⟩ := opn_int Try.underlying3 h2
  replace e2 := List.head_eq_of_cons_eq e2
  subst e2
  obtain ⟨a3, e3, w3⟩ := opn_int Try.underlying3 h3
  replace e3 := List.head_eq_of_cons_eq e3
  subst e3
  exact ⟨⟨a0, a1, a2, a3⟩, k58_mk w ⟨a0, a1, a2, a3⟩, w0, w1, w2, w3⟩
end
end Go.Proofs.Ytiiocpeeobjlgaa.P
end
section
namespace Go.Proofs.Ytiiocpeeobjlgaa.P
open Go.RowKit Go.Proofs.YtiiocpeeobjlgaaW.PrintWords Go.Proofs.YtiiocpeeobjlgaaW.PrintLast Go.Proofs.YtiiocpeeobjlgaaW.PrintMore
def FnExactPartCoverTrue : Prop := ∀ (A0_0 : Option Addr) (c0_0 : Nat) (l0_0 : List (List Int)) (A1 : Option Addr) (c1 : Nat) (l1 : List S58) (a2 : Int) (w : World), Kd.C (Kd.slice 5 (Kd.int .u8)) w A0_0 l0_0.length l0_0 → l0_0.length ≤ c0_0 → Kd.C k58 w A1 l1.length l1 → l1.length ≤ c1 → (fun l => l.length ≤ 9223372036854775807 ∧ ∀ x ∈ l, (fun l => l.length ≤ 9223372036854775807 ∧ ∀ x ∈ l, (fun x => (Lit.int .u8 x).wf = true) x) x) l0_0 → (fun l => l.length ≤ 9223372036854775807 ∧ ∀ x ∈ l, (fun x => (fun x => (Lit.int .i64 x).wf = true) x.f0 ∧ (fun x => (Lit.int .i64 x).wf = true) x.f1 ∧ (fun x => (Lit.int .i64 x).wf = true) x.f2 ∧ (fun x => (Lit.int .i64 x).wf = true) x.f3) x) l1 → (fun x => (Lit.int .i64 x).wf = true) a2 → Calls Try.prog 3 #[.agg #[.slice A0_0 l0_0.length c0_0], .slice A1 l1.length c1, .int .i64 a2] w fun e w' => e = .returned (.bool true) ∧ Below w.heap.size w w'
end Go.Proofs.Ytiiocpeeobjlgaa.P
end
section
namespace Go.Proofs.Ytiiocpeeobjlgaa.P
open Go.RowKit Go.Proofs.YtiiocpeeobjlgaaW.PrintWords Go.Proofs.YtiiocpeeobjlgaaW.PrintLast Go.Proofs.YtiiocpeeobjlgaaW.PrintMore
set_option linter.unusedVariables false
set_option linter.unusedSimpArgs false
theorem l3Watched_l0 (m : List (List Int)) (hm : Fit m) (l : List S56) (hw : ∀ x ∈ l, wf4 x) (hlen : l.length ≤ 1048576) (d : Nat) : ∀ i : Nat, i + d = min l.length 13 →
    Ev (fun k => spec_l3Watched.l0 k l i m) (((l.drop i).take d).all (fun x => memOk m && winOn m x.f0 x.f1 x.f2 x.f3) && (memOk m && decide (l.length ≤ 12))) := by
  induction d with
  | zero =>
    intro i hi
    obtain ⟨K, hK⟩ := l2Mem m hm.1
    refine ⟨K + 2, fun k hk => ?_⟩
    obtain ⟨k, rfl⟩ : ∃ j, k = j + 1 + 1 := ⟨k - 2, by omega⟩
    have e1 := hK k (by omega)
    dsimp only at e1 ⊢
    have hj : spec_l3Watched.j1 (k + 1) l i false m = some (memOk m && decide (l.length ≤ 12)) := by
      unfold spec_l3Watched.j1
      rw [if_neg (by decide), e1, Option.bind_some]
      cases memOk m
      · rfl
      · rw [if_pos rfl]
        simp only [Bool.true_and, Option.some.injEq]
        rw [Bool.eq_iff_iff]
        simp only [decide_eq_true_eq]
        omega
    unfold spec_l3Watched.l0
    rw [List.take_zero, List.all_nil, Bool.true_and]
    by_cases h : (i : Int) < l.length
    · rw [if_pos h, decide_eq_false (show ¬ (i : Int) ≤ 12 by omega)]
      exact hj
    · rw [if_neg h]
      exact hj
  | succ d ih =>
    intro i hi
    have hlt : i < l.length := by omega
    obtain ⟨K, hK⟩ := l2Win m hm l[i].f0 l[i].f1 l[i].f2 l[i].f3 (hw _ (List.getElem_mem hlt))
    obtain ⟨K2, h2⟩ := ih (i + 1) (by omega)
    refine ⟨K + K2 + 2, fun k hk => ?_⟩
    obtain ⟨k, rfl⟩ : ∃ j, k = j + 1 + 1 := ⟨k - 2, by omega⟩
    have e1 := hK k (by omega)
    have e2 := h2 k (by omega)
    dsimp only at e1 e2 ⊢
    unfold spec_l3Watched.l0
    rw [if_pos (by omega), decide_eq_true (show (i : Int) ≤ 12 by omega)]
    unfold spec_l3Watched.j1
    rw [if_pos rfl, if_pos (by omega), if_pos (by omega), rdB hlt, e1, Option.bind_some, wrap_succ i (by omega), e2, List.drop_eq_getElem_cons hlt, List.take_succ_cons, List.all_cons]
    cases memOk m && winOn m l[i].f0 l[i].f1 l[i].f2 l[i].f3 <;> rfl
def watched (m : List (List Int)) (l : List S56) : Bool := memOk m && (onAll m l && decide (l.length ≤ 12))
theorem l3Watched_ev (m : List (List Int)) (hm : Fit m) (l : List S56) (hw : ∀ x ∈ l, wf4 x) (hlen : l.length ≤ 1048576) : Ev (fun k => spec_l3Watched.f k m l) (watched m l) := by
  obtain ⟨K, hK⟩ := l3Watched_l0 m hm l hw hlen (min l.length 13) 0 (by omega)
  refine ⟨K, fun k hk => ?_⟩
  have e1 := hK k hk
  refine e1.trans ?_
  unfold watched onAll
  rw [List.drop_zero, Option.some.injEq]
  by_cases h : l.length ≤ 12
  · rw [List.take_of_length_le (by omega), decide_eq_true h]
    cases memOk m
    · simp
    · simp
  · rw [decide_eq_false h]
    simp
theorem areWatched_ev (m : List (List Int)) (hm : Fit m) (l : List S56) : Ev (fun k => impl_areWatched.f k m l) (watched m l) := by
  obtain ⟨K, hK⟩ := areOn_ev m hm l
  refine ⟨K, fun k hk => ?_⟩
  have e1 := hK k hk
  dsimp only at e1 ⊢
  unfold impl_areWatched.f
  rw [e1, Option.bind_some]
  unfold watched onAll
  have e : decide ((l.length : Int) ≤ 12) = decide (l.length ≤ 12) := by
    rw [Bool.eq_iff_iff]; simp only [decide_eq_true_eq]; omega
  rw [e]
  cases memOk m <;> cases (l.all fun x => winOn m x.f0 x.f1 x.f2 x.f3) <;> rfl
end Go.Proofs.Ytiiocpeeobjlgaa.P
end
section
namespace Go.Proofs.Ytiiocpeeobjlgaa.P
open Go.RowKit Go.Proofs.YtiiocpeeobjlgaaW.PrintWords Go.Proofs.YtiiocpeeobjlgaaW.PrintLast Go.Proofs.YtiiocpeeobjlgaaW.PrintMore
set_option linter.unusedVariables false
set_option linter.unusedSimpArgs false
theorem onAll_each {m : List (List Int)} {l : List S56} (h : watched m l = true) : memOk m = true ∧ (∀ x ∈ l, winOn m x.f0 x.f1 x.f2 x.f3 = true) ∧ l.length ≤ 12 := by
  unfold watched onAll at h
  simp only [Bool.and_eq_true, decide_eq_true_eq, List.all_eq_true] at h
  exact ⟨h.1, h.2.1, h.2.2⟩
end Go.Proofs.Ytiiocpeeobjlgaa.P
end
section
namespace Go.Proofs.Ytiiocpeeobjlgaa.P
open Go.RowKit Go.Proofs.YtiiocpeeobjlgaaW.PrintWords Go.Proofs.YtiiocpeeobjlgaaW.PrintLast Go.Proofs.YtiiocpeeobjlgaaW.PrintMore
set_option linter.unusedVariables false
set_option linter.unusedSimpArgs false
theorem l3Sees_eq (x : S56) (a p : Int) : spec_l3Sees.f x.f0 x.f1 x.f2 x.f3 a p = some (seesB x a p) := by
  unfold seesB impl_Window_sees.f spec_l3Sees.f
  by_cases h : x.f0 = a
  · rw [if_pos h, if_pos h, within_eq, l1In_eq]; rfl
  · rw [if_neg h, if_neg h]; rfl
theorem noticed_l0 (l : List S56) (a p : Int) (hl : l.length ≤ 1048576) (d : Nat) : ∀ (i : Nat) (acc : List Int), i + d = l.length → acc.length ≤ i →
    Ev (fun k => spec_l3Noticed.l0 k l a p acc (i : Int)) (acc ++ numsF (fun _ x => seesB x a p) (l.drop i) i) := by
  induction d with
  | zero =>
    intro i acc hi ha
    refine Ev.end_ (fun k => ?_)
    rw [spec_l3Noticed.l0, if_neg (by omega), List.drop_eq_nil_of_le (by omega)]
    simp [numsF]
  | succ d ih =>
    intro i acc hi ha
    have hlt : i < l.length := by omega
    rw [numsF_drop _ l i hlt, rdB hlt]
    cases h : seesB l[i] a p with
    | true =>
      obtain ⟨K, hK⟩ := ih (i + 1) (acc ++ [(i : Int)]) (by omega) (by simp; omega)
      refine ⟨K + 1, fun k hk => ?_⟩
      obtain ⟨k, rfl⟩ : ∃ j, k = j + 1 := ⟨k - 1, by omega⟩
      have e1 := hK k (by omega)
      dsimp only at e1 ⊢
      rw [spec_l3Noticed.l0, if_pos (by omega), if_pos (by omega), rdB hlt, l3Sees_eq, h, Option.bind_some, if_pos rfl, if_pos (by omega), wrap_succ i (by omega), e1, if_pos rfl]
      simp
    | false =>
      obtain ⟨K, hK⟩ := ih (i + 1) acc (by omega) (by omega)
      refine ⟨K + 1, fun k hk => ?_⟩
      obtain ⟨k, rfl⟩ : ∃ j, k = j + 1 := ⟨k - 1, by omega⟩
      have e1 := hK k (by omega)
      dsimp only at e1 ⊢
      rw [spec_l3Noticed.l0, if_pos (by omega), if_pos (by omega), rdB hlt, l3Sees_eq, h, Option.bind_some, if_neg (by decide), wrap_succ i (by omega), e1, if_neg (by decide)]
theorem noticed_ev (l : List S56) (a p : Int) (hl : l.length ≤ 1048576) : Ev (fun k => spec_l3Noticed.f k l a p) (numsF (fun _ x => seesB x a p) l 0) := by
  obtain ⟨K, hK⟩ := noticed_l0 l a p hl l.length 0 [] (by omega) (by simp)
  refine ⟨K, fun k hk => ?_⟩
  have e1 := hK k hk
  dsimp only at e1 ⊢
  rw [spec_l3Noticed.f]
  simpa using e1
end Go.Proofs.Ytiiocpeeobjlgaa.P
end
section
namespace Go.Proofs.Ytiiocpeeobjlgaa.P
open Go.RowKit Go.Proofs.YtiiocpeeobjlgaaW.PrintWords Go.Proofs.YtiiocpeeobjlgaaW.PrintLast Go.Proofs.YtiiocpeeobjlgaaW.PrintMore
set_option linter.unusedVariables false
set_option linter.unusedSimpArgs false
theorem rowc_fit {m : List (List Int)} (hok : memOk m = true) {a : Int} (h : inB a 0 ((m.length : Int) - 1) = true) : 0 ≤ a ∧ a < (m.length : Int) ∧ (rd_L1 m a).length ≤ 64 := by
  unfold inB at h
  have h' := of_decide_eq_true h
  have hlt : a.toNat < m.length := by omega
  exact ⟨by omega, by omega, (memOk_each hok _ (getD_mem m [] a.toNat hlt)).2⟩
def countsR (m : List (List Int)) (l : List S56) (a : Int) : List Int × Bool :=
  if watched m l = true then (if inB a 0 ((m.length : Int) - 1) = true then (countsL m l a (rd_L1 m a).length, true) else ([], false)) else ([], false)
theorem counts_l0 (m : List (List Int)) (l : List S56) (a : Int) (hl : l.length ≤ 1048576) (h0 : 0 ≤ a) (h1 : a < (m.length : Int)) (hr : (rd_L1 m a).length ≤ 64) (d : Nat) : ∀ i : Nat, i + d = (rd_L1 m a).length →
    Ev (fun k => spec_l3Counts.l0 k l a (countsL m l a i) (i : Int) m) (countsL m l a (rd_L1 m a).length) := by
  induction d with
  | zero =>
    intro i hi
    obtain rfl : i = (rd_L1 m a).length := by omega
    refine Ev.end_ (fun k => ?_)
    rw [spec_l3Counts.l0, if_pos h0, if_pos h1, if_neg (by omega)]
  | succ d ih =>
    intro i hi
    obtain ⟨K1, e1⟩ := noticed_ev l a (i : Int) hl
    obtain ⟨K2, e2⟩ := ih (i + 1) (by omega)
    refine ⟨K1 + K2 + 1, fun k hk => ?_⟩
    obtain ⟨k, rfl⟩ : ∃ j, k = j + 1 := ⟨k - 1, by omega⟩
    have e1 := e1 k (by omega)
    have e2 := e2 k (by omega)
    dsimp only at e1 e2 ⊢
    have hc := countsL_len m l a i
    rw [spec_l3Counts.l0, if_pos h0, if_pos h1, if_pos (by omega), e1, Option.bind_some, if_pos (by omega), ← countsL_succ, wrap_succ i (by omega)]
    exact e2
theorem counts_impl (m : List (List Int)) (hm : Fit m) (l : List S56) (hlen : l.length ≤ 1048576) (a : Int) : Ev (fun k => impl_NoticedCounts.f k m l a) (countsR m l a) := by
  obtain ⟨K, hK⟩ := areWatched_ev m hm l
  have hmax := hm.1
  refine ⟨K, fun k hk => ?_⟩
  have e1 := hK k hk
  dsimp only at e1 ⊢
  rw [impl_NoticedCounts.f, e1, Option.bind_some]
  unfold countsR
  cases h1 : watched m l with
  | false => rfl
  | true =>
    rw [if_pos rfl, if_pos rfl, hasArr m hm.1, Option.bind_some]
    cases h2 : inB a 0 ((m.length : Int) - 1) with
    | false => rfl
    | true =>
      obtain ⟨h3, h4, h5⟩ := rowc_fit (onAll_each h1).1 h2
      rw [if_pos rfl, if_pos h3, if_pos h4, if_pos hlen, if_pos (by omega), if_pos rfl]
theorem countsR_len (m : List (List Int)) (l : List S56) (a : Int) : (countsR m l a).1.length ≤ 64 := by
  unfold countsR
  split
  · rename_i h1
    split
    · rename_i h2
      have := rowc_fit (onAll_each h1).1 h2
      dsimp only
      rw [countsL_len]
      omega
    · simp
  · simp
end Go.Proofs.Ytiiocpeeobjlgaa.P
end
section
namespace Go.Proofs.Ytiiocpeeobjlgaa.P
open Go.RowKit Go.Proofs.YtiiocpeeobjlgaaW.PrintWords Go.Proofs.YtiiocpeeobjlgaaW.PrintLast Go.Proofs.YtiiocpeeobjlgaaW.PrintMore
set_option linter.unusedVariables false
set_option linter.unusedSimpArgs false
def ramp8 (a : Int) (n : Nat) : List Int := (List.range n).map fun (i : Nat) => (a + (i : Int)) % 256
theorem ramp8_len (a : Int) (n : Nat) : (ramp8 a n).length = n := by simp [ramp8]
theorem ramp8_succ (a : Int) (n : Nat) : ramp8 a (n + 1) = ramp8 a n ++ [(a + n) % 256] := by simp [ramp8, List.range_succ]
theorem markBytes_l0 (l : List Int) (a : Int) (hl : l.length ≤ 1099511627776) (h0 : 0 ≤ a) (h1 : a ≤ 4398046511104) (d : Nat) : ∀ i : Nat, i + d = l.length →
    Ev (fun k => laws_markByteS.l0 k (ramp8 a i ++ l.drop i) (a + i) (i : Int)) (a + l.length, ramp8 a l.length) := by
  induction d with
  | zero =>
    intro i hi
    obtain rfl : i = l.length := by omega
    refine Ev.end_ (fun k => ?_)
    simp only [laws_markByteS.l0]
    rw [if_neg (by simp [ramp8_len])]
    simp
  | succ d ih =>
    intro i hi
    have hlt : i < l.length := by omega
    have e : (ramp8 a i ++ l.drop i).set i ((a + i) % 256) = ramp8 a (i + 1) ++ l.drop (i + 1) := by
      rw [List.drop_eq_getElem_cons hlt, List.set_append_right _ _ (by rw [ramp8_len]; exact Nat.le_refl _), ramp8_succ, ramp8_len, Nat.sub_self, List.set_cons_zero, List.append_assoc]
      rfl
    obtain ⟨K, hK⟩ := ih (i + 1) (by omega)
    refine ⟨K + 1, fun n hn => ?_⟩
    obtain ⟨k, rfl⟩ : ∃ k, n = k + 1 := ⟨n - 1, by omega⟩
    have e2 := hK k (by omega)
    dsimp only at e2 ⊢
    simp only [laws_markByteS.l0]
    rw [if_pos (by simp [ramp8_len]; omega), if_pos (by omega), Int.toNat_natCast, e, wrap_in (x := a + i + 1) (by omega) (by omega), wrap_succ i (by omega)]
    rw [show a + (i : Int) + 1 = a + ((i + 1 : Nat) : Int) by omega]
    exact e2
theorem markBytes (l : List Int) (a : Int) (hl : l.length ≤ 1099511627776) (h0 : 0 ≤ a) (h1 : a ≤ 4398046511104) : Ev (fun k => laws_markByteS.f k l a) (a + l.length, ramp8 a l.length) := by
  obtain ⟨K, hK⟩ := markBytes_l0 l a hl h0 h1 l.length 0 (by omega)
  refine ⟨K, fun k hk => ?_⟩
  have := hK k hk
  simpa [laws_markByteS.f, ramp8] using this
def total (m : List (List Int)) : Nat := (m.map List.length).sum
theorem total_small {m : List (List Int)} (h : Small m) : total m ≤ 1099511627776 := by
  obtain ⟨h1, h2⟩ := h
  have : ∀ m : List (List Int), (∀ a ∈ m, a.length ≤ 1048576) → total m ≤ m.length * 1048576 := by
    intro m
    induction m with
    | nil => intro _; simp [total]
    | cons a m ih =>
      intro h
      have h3 := h a List.mem_cons_self
      have h4 := ih (fun x hx => h x (List.mem_cons_of_mem _ hx))
      have e : total (a :: m) = a.length + total m := by simp [total]
      have e2 : (a :: m).length = m.length + 1 := rfl
      rw [e, e2]
      omega
  have := this m h2
  omega
def rampSS : List (List Int) → Int → List (List Int)
  | [], _ => []
  | l :: ls, a => ramp8 a l.length :: rampSS ls (a + l.length)
theorem rampSS_len : ∀ (m : List (List Int)) (a : Int), (rampSS m a).length = m.length
  | [], _ => rfl
  | _ :: ls, a => by simp [rampSS, rampSS_len ls]
theorem rampSS_at : ∀ (m : List (List Int)) (a : Int) (j : Nat) (h : j < m.length), (rampSS m a)[j]? = some (ramp8 (a + total (m.take j)) m[j].length)
  | l :: ls, a, 0, h => by simp [rampSS, total]
  | l :: ls, a, j + 1, h => by
    have h' : j < ls.length := by simpa using h
    have := rampSS_at ls (a + l.length) j h'
    simp only [rampSS, List.getElem?_cons_succ, this, List.take_succ_cons, List.getElem_cons_succ]
    congr 2
    simp [total]
    omega
theorem total_append (a b : List (List Int)) : total (a ++ b) = total a + total b := by simp [total]
theorem total_take_succ (m : List (List Int)) (j : Nat) (h : j < m.length) : total (m.take (j + 1)) = total (m.take j) + m[j].length := by
  rw [List.take_succ_eq_append_getElem h, total_append]
  have e : total [m[j]] = m[j].length := by simp [total]
  rw [e]
theorem total_take_le (m : List (List Int)) (j : Nat) : total (m.take j) ≤ total m := by
  have e : total (m.take j ++ m.drop j) = total (m.take j) + total (m.drop j) := total_append _ _
  rw [List.take_append_drop] at e
  omega
theorem markSS_l0 (m : List (List Int)) (a : Int) (hm : m.length ≤ 1048576) (ht : total m ≤ 1099511627776) (h0 : 0 ≤ a) (h1 : a ≤ 2199023255552) (d : Nat) : ∀ i : Nat, i + d = m.length →
    Ev (fun k => laws_markByteSS.l0 k ((rampSS m a).take i ++ m.drop i) (a + total (m.take i)) (i : Int)) (a + total m, rampSS m a) := by
  induction d with
  | zero =>
    intro i hi
    obtain rfl : i = m.length := by omega
    refine Ev.end_ (fun k => ?_)
    simp only [laws_markByteSS.l0]
    have e1 : (rampSS m a).take m.length = rampSS m a := List.take_of_length_le (by rw [rampSS_len]; exact Nat.le_refl _)
    rw [if_neg (by simp [rampSS_len]), e1]
    simp
  | succ d ih =>
    intro i hi
    have hlt : i < m.length := by omega
    have hti := total_take_succ m i hlt
    have htl := total_take_le m (i + 1)
    have hr := rampSS_at m a i hlt
    have hl1 : ((rampSS m a).take i).length = i := by rw [List.length_take, rampSS_len]; omega
    have erd : rd_L1 ((rampSS m a).take i ++ m.drop i) (i : Int) = m[i] := by
      unfold rd_L1
      rw [Int.toNat_natCast, List.getD_eq_getElem?_getD, List.getElem?_append_right (by omega), hl1, Nat.sub_self, List.getElem?_drop]
      simp [List.getElem?_eq_getElem hlt]
    have e : ((rampSS m a).take i ++ m.drop i).set i (ramp8 (a + total (m.take i)) m[i].length) = (rampSS m a).take (i + 1) ++ m.drop (i + 1) := by
      rw [List.drop_eq_getElem_cons hlt, List.set_append_right _ _ (by omega), hl1, Nat.sub_self, List.set_cons_zero, List.take_add_one, hr, List.append_assoc]
      rfl
    obtain ⟨K1, hK1⟩ := markBytes m[i] (a + total (m.take i)) (by omega) (by omega) (by omega)
    obtain ⟨K, hK⟩ := ih (i + 1) (by omega)
    refine ⟨K1 + K + 1, fun n hn => ?_⟩
    obtain ⟨k, rfl⟩ : ∃ k, n = k + 1 := ⟨n - 1, by omega⟩
    have e1 := hK1 k (by omega)
    have e2 := hK k (by omega)
    dsimp only at e1 e2 ⊢
    simp only [laws_markByteSS.l0]
    rw [if_pos (by rw [List.length_append, hl1, List.length_drop]; omega), if_pos (by omega), erd, e1, Option.bind_some]
    dsimp only
    rw [Int.toNat_natCast, e, wrap_succ i (by omega)]
    rw [show a + (total (m.take i) : Int) + (m[i].length : Int) = a + (total (m.take (i + 1)) : Int) by omega]
    exact e2
theorem markMem (m : List (List Int)) (a : Int) (hm : Small m) (h0 : 0 ≤ a) (h1 : a ≤ 2199023255552) : Ev (fun k => laws_markMemory.f k m a) (a + total m, rampSS m a) := by
  obtain ⟨K, hK⟩ := markSS_l0 m a hm.1 (total_small hm) h0 h1 m.length 0 (by omega)
  refine ⟨K, fun k hk => ?_⟩
  have := hK k hk
  simpa [laws_markMemory.f, laws_markByteSS.f, total] using this
end Go.Proofs.Ytiiocpeeobjlgaa.P
end
section
namespace Go.Proofs.Ytiiocpeeobjlgaa.P
open Go.RowKit Go.Proofs.YtiiocpeeobjlgaaW.PrintWords Go.Proofs.YtiiocpeeobjlgaaW.PrintLast Go.Proofs.YtiiocpeeobjlgaaW.PrintMore
set_option linter.unusedVariables false
set_option linter.unusedSimpArgs false
theorem markWins_l0 (d : Nat) : ∀ (i : Nat) (a : Int) (x : List S56), i + d = x.length → x.length ≤ 1048576 → 0 ≤ a → a + 4 * d ≤ 8796093022208 → ∃ y, Ev (fun k => laws_markWindowS.l0 k x a (i : Int)) (a + 4 * d, y) := by
  induction d with
  | zero =>
    intro i a x hi hx h0 h1
    refine ⟨x, Ev.end_ (fun k => ?_)⟩
    simp only [laws_markWindowS.l0]
    rw [if_neg (by omega)]
    simp
  | succ d ih =>
    intro i a x hi hx h0 h1
    have hl : ∀ (b0 b1 b2 b3 : S56), ((((x.set i b0).set i b1).set i b2).set i b3).length = x.length := by intro b0 b1 b2 b3; simp
    have step : ∀ (b0 b1 b2 b3 : S56), ∃ y, Ev (fun k => laws_markWindowS.l0 k ((((x.set i b0).set i b1).set i b2).set i b3) (a + 1 + 1 + 1 + 1) ((i + 1 : Nat) : Int)) (a + 4 * ((d + 1 : Nat) : Int), y) := by
      intro b0 b1 b2 b3
      obtain ⟨y, hy⟩ := ih (i + 1) (a + 1 + 1 + 1 + 1) ((((x.set i b0).set i b1).set i b2).set i b3) (by rw [hl]; omega) (by rw [hl]; omega) (by omega) (by omega)
      refine ⟨y, ?_⟩
      rw [show a + 4 * ((d + 1 : Nat) : Int) = a + 1 + 1 + 1 + 1 + 4 * (d : Int) by omega]
      exact hy
    have e : ∀ k, ∃ b0 b1 b2 b3, laws_markWindowS.l0 (k + 1) x a (i : Int) = laws_markWindowS.l0 k ((((x.set i b0).set i b1).set i b2).set i b3) (a + 1 + 1 + 1 + 1) ((i + 1 : Nat) : Int) ∧ ∀ k', laws_markWindowS.l0 (k' + 1) x a (i : Int) = laws_markWindowS.l0 k' ((((x.set i b0).set i b1).set i b2).set i b3) (a + 1 + 1 + 1 + 1) ((i + 1 : Nat) : Int) := by
      intro k
      have h : ∀ k', laws_markWindowS.l0 (k' + 1) x a (i : Int) = _ := fun k' => by
        simp only [laws_markWindowS.l0, Option.bind_some, Int.toNat_natCast]
        rw [if_pos (by omega), if_pos (by omega), wrap_in (x := a + 1) (by omega) (by omega), wrap_in (x := a + 1 + 1) (by omega) (by omega), wrap_in (x := a + 1 + 1 + 1) (by omega) (by omega), wrap_in (x := a + 1 + 1 + 1 + 1) (by omega) (by omega), wrap_succ i (by omega)]
      exact ⟨_, _, _, _, h k, h⟩
    obtain ⟨b0, b1, b2, b3, _, e⟩ := e 0
    obtain ⟨y, K, hK⟩ := step b0 b1 b2 b3
    refine ⟨y, K + 1, fun n hn => ?_⟩
    obtain ⟨k, rfl⟩ : ∃ k, n = k + 1 := ⟨n - 1, by omega⟩
    dsimp only
    rw [e k]
    exact hK k (by omega)
theorem markWins (l : List S56) (a : Int) (hl : l.length ≤ 1048576) (h0 : 0 ≤ a) (h1 : a ≤ 4398046511104) : ∃ y, Ev (fun k => laws_markWindowS.f k l a) (a + 4 * (l.length : Int), y) := by
  obtain ⟨y, hy⟩ := markWins_l0 l.length 0 a l (by omega) hl h0 (by omega)
  exact ⟨y, hy⟩
end Go.Proofs.Ytiiocpeeobjlgaa.P
end
section
namespace Go.Proofs.Ytiiocpeeobjlgaa.P
open Go.RowKit Go.Proofs.YtiiocpeeobjlgaaW.PrintWords Go.Proofs.YtiiocpeeobjlgaaW.PrintLast Go.Proofs.YtiiocpeeobjlgaaW.PrintMore
set_option linter.unusedVariables false
set_option linter.unusedSimpArgs false
def coverR (m : List (List Int)) (l : List S56) (a : Int) : List (Int × Int) × Bool :=
  if (countsR m l a).2 = true then (covN (countsR m l a).1 (countsR m l a).1.length, true) else ([], false)
theorem coverR_len (m : List (List Int)) (l : List S56) (a : Int) : (coverR m l a).1.length ≤ 64 := by
  unfold coverR
  split
  · have h1 := countsR_len m l a
    have h2 := covN_len (countsR m l a).1 (countsR m l a).1.length
    dsimp only
    omega
  · simp
theorem cover_impl (m : List (List Int)) (hm : Fit m) (l : List S56) (hlen : l.length ≤ 1048576) (a : Int) : Ev (fun k => impl_PartCover.f k m l a) (coverR m l a) := by
  obtain ⟨K, hK⟩ := counts_impl m hm l hlen a
  refine ⟨K, fun k hk => ?_⟩
  have e1 := hK k hk
  have h1 := countsR_len m l a
  dsimp only at e1 ⊢
  rw [impl_PartCover.f, e1, Option.bind_some]
  unfold coverR
  by_cases h : (countsR m l a).2 = true
  · rw [if_pos h, if_pos (by omega), if_pos h]
  · rw [if_neg h, if_neg h]
theorem cover_spec (m : List (List Int)) (hm : Fit m) (l : List S56) (hw : ∀ x ∈ l, wf4 x) (hlen : l.length ≤ 1048576) (a : Int) : Ev (fun k => spec_PartCover.f k m l a) (coverR m l a) := by
  obtain ⟨K, hK⟩ := l3Watched_ev m hm l hw hlen
  have hmax := hm.1
  unfold coverR countsR
  cases h1 : watched m l with
  | false =>
    refine ⟨K, fun k hk => ?_⟩
    have e1 := hK k hk
    dsimp only at e1 ⊢
    rw [spec_PartCover.f, e1, h1]; rfl
  | true =>
    cases h2 : inB a 0 ((m.length : Int) - 1) with
    | false =>
      refine ⟨K, fun k hk => ?_⟩
      have e1 := hK k hk
      dsimp only at e1 ⊢
      rw [spec_PartCover.f, e1, h1, Option.bind_some, if_pos rfl, l1In_eq, wrap_in (x := (m.length : Int) - 1) (by omega) (by omega), h2]; rfl
    | true =>
      obtain ⟨h3, h4, h5⟩ := rowc_fit (onAll_each h1).1 h2
      obtain ⟨K2, hK2⟩ := counts_l0 m l a hlen h3 h4 h5 (rd_L1 m a).length 0 (by omega)
      refine ⟨K + K2, fun k hk => ?_⟩
      have e1 := hK k (by omega)
      have e2 := hK2 k (by omega)
      dsimp only at e1 e2 ⊢
      have e3 : spec_l3Counts.f k m l a = some (countsL m l a (rd_L1 m a).length) := e2
      rw [spec_PartCover.f, e1, h1, Option.bind_some, if_pos rfl, l1In_eq, wrap_in (x := (m.length : Int) - 1) (by omega) (by omega), h2, Option.bind_some, if_pos rfl, e3, Option.bind_some, if_pos (by rw [countsL_len]; omega)]; rfl
theorem FnExactPartCover_ok : FnExactPartCoverTrue := by
  intro A0 c0 m A1 c1 l a2 w hr hc hr1 hc1 hm hl h_a2
  have hfit : Fit m := ⟨hm.1, fun a ha => (hm.2 a ha).1⟩
  have hw : ∀ x ∈ l.map cvW, wf4 x := fun x hx => by
    obtain ⟨y, hy, rfl⟩ := List.mem_map.mp hx
    exact wf64 (hl.2 y hy).2.1
  obtain ⟨r, ⟨K0, h0⟩, hz⟩ := szMem m hfit
  dsimp only at h0
  by_cases hr0 : r < 0
  · exact laws_FnExactPartCover.exit1 K0 A0 c0 m A1 c1 l a2 r w hr hc hr1 hc1 (h0 K0 (Nat.le_refl _)) hr0
  · obtain ⟨hsm, hr1'⟩ := hz hr0
    obtain ⟨r2, hq, hz2⟩ := szWins l r hl.1 hr0 hr1'
    by_cases hr2 : r2 < 0
    · exact laws_FnExactPartCover.exit2 K0 A0 c0 m A1 c1 l a2 r r2 w hr hc hr1 hc1 (h0 K0 (Nat.le_refl _)) hq hr0 hr2
    · obtain ⟨hlen, _⟩ := hz2 hr2
      have hlen' : (l.map cvW).length ≤ 1048576 := by rw [List.length_map]; exact hlen
      obtain ⟨K1, e1⟩ := toMem m hsm
      obtain ⟨K2, e2⟩ := eqMem m hfit
      obtain ⟨K3, e3⟩ := toWins l hlen
      obtain ⟨K4, e4⟩ := eqWins (l.map cvW) (by omega)
      obtain ⟨K5, e5⟩ := cover_spec m hfit (l.map cvW) hw hlen' a2
      obtain ⟨K6, e6⟩ := cover_impl m hfit (l.map cvW) hlen' a2
      have hg := coverR_len m (l.map cvW) a2
      obtain ⟨⟨g, ok⟩, hgo⟩ : ∃ x, x = coverR m (l.map cvW) a2 := ⟨_, rfl⟩
      rw [← hgo] at e5 e6 hg
      dsimp only at hg
      have e7 : laws_eqIntA2S.f g g = some true := by unfold laws_eqIntA2S.f; rw [if_pos rfl, if_pos (by omega)]
      obtain ⟨K8, e8⟩ := markMem m 1 hsm (by omega) (by omega)
      have ht := total_small hsm
      obtain ⟨y, K9, e9⟩ := markWins (l.map cvW) (1 + total m) hlen' (by omega) (by omega)
      have e10 : laws_markIntA2S.f g 1 = some (1 + 2 * (g.length : Int), markA2 g 1 (2 * g.length)) := by unfold laws_markIntA2S.f; rw [if_pos (by omega), if_pos (by omega), if_pos (by omega)]
      have e11 := markA2_held g 1 (by omega) (by omega) (by omega)
      obtain ⟨K, hK⟩ : ∃ K, K = K0 + K1 + K2 + K3 + K4 + K5 + K6 + K8 + K9 := ⟨_, rfl⟩
      exact laws_FnExactPartCover.walk K A0 c0 m A1 c1 l a2 r r2 m (l.map cvW) g ok g _ _ _ _ _ _ w hr hc hr1 hc1 (h0 K (by omega)) hq (e1 K (by omega)) (e3 K (by omega)) (e5 K (by omega)) (e6 K (by omega)) e7 (e2 K (by omega)) (e4 K (by omega)) (e8 K (by omega)) (e9 K (by omega)) e10 e11 hr0 hr2 (by omega) (by omega) (by omega)
end Go.Proofs.Ytiiocpeeobjlgaa.P
end
section
namespace Go.Proofs.Ytiiocpeeobjlgaa.fnExactPartCover
open Go.ChangeShapes Go.WideShapes Go.ChangeAt Go.RowKit Go.Proofs.Ytiiocpeeobjlgaa.P Go.Proofs.YtiiocpeeobjlgaaW.PrintWords Go.Proofs.YtiiocpeeobjlgaaW.PrintLast Go.Proofs.YtiiocpeeobjlgaaW.PrintMore
open Go.ChangeMaps (open_string shut_string)
set_option linter.unusedVariables false
set_option linter.unusedSimpArgs false
theorem own : ownKnob Try.prog.godebug = none := by kernel_rfl
theorem laidOut : laidOutB Try.prog = true := by kernel_rfl
set_option maxRecDepth 100000 in
theorem lifted (os : Os) (started : os.Started) (H : Type) (enc : TypeId × Value → H) :
    ReturnsInHanded {} Try.checked os 3 .any (Rows.fnExactPartCoverSpec.pre6 enc Try.prog Try.f3 Rows.fnExactPartCoverRow.domain false) (Rows.fnExactPartCoverSpec.post enc Try.prog Try.f3 false true false false) := by
  refine returnsInHanded_of_change_sized (C := Try.checked) own started (by kernel_rfl) Try.func3
    (ChangeSpec.witness6 (enc := enc) (C := Try.checked) false ⟨#[], #[.agg #[.slice none 0 0], .slice none 0 0, .int .i64 0], []⟩ 8 (by kernel_rfl) (by kernel_rfl) (by kernel_rfl) (by kernel_rfl)) ?_
  intro W base args ds gs before hval0 hW hcnd hsz0 _
  have hval : ∀ (j : Nat) t v, Try.f3.params[j]? = some t → args[j]? = some v → Value.okWide Try.prog W .any base t v := hval0
  have hW' := hW
  obtain ⟨p, q, hA0, hV, rfl, hfz, hnd⟩ := hW
  have hA : DataW.TrodAll enc Try.prog W 0 (fun _ => true) true Try.f3.params.toList args.toList ds p := hA0
  rw [Try.params3] at hA hval
  obtain ⟨v0, vs0, d0, ds0, p0, q0, hargs, rfl, rfl, h0, r0⟩ := trodAll_cons hA
  obtain ⟨v1, vs1, d1, ds1, p1, q1, rfl, rfl, rfl, h1, r1⟩ := trodAll_cons r0
  obtain ⟨v2, vs2, d2, ds2, p2, q2, rfl, rfl, rfl, h2, r2⟩ := trodAll_cons r1
  obtain ⟨rfl, rfl, rfl⟩ := trodAll_nil r2
  obtain rfl : args = #[v0, v1, v2] := by cases args; simp_all
  obtain ⟨rfl, rfl⟩ := trodVars_none hV
  have k0_ := h0
  have lt0 : ∀ x ∈ p0, x.block < W.heap.size := by obtain ⟨m, hm⟩ := k0_; exact DataW.trod_lt m _ _ _ hm
  obtain ⟨v0_0, y0_0, nn0, rfl, h0_0⟩ := byval1 Try.underlying24 (by kernel_rfl) (by kernel_rfl) (hval 0 24 v0 rfl rfl) h0
  obtain ⟨l0_0, hk0_0, w0_0⟩ := opn_slice (d := (Kd.slice 5 (Kd.int .u8))) (Q := (fun l => l.length ≤ 9223372036854775807 ∧ ∀ x ∈ l, (fun x => (Lit.int .u8 x).wf = true) x)) Try.underlying22 (by kernel_rfl) (fun _ _ _ h => opn_slice (d := (Kd.int .u8)) (Q := (fun x => (Lit.int .u8 x).wf = true)) Try.underlying70 (by kernel_rfl) (fun _ _ _ h => opn_int Try.underlying5 h) h) h0_0
  obtain ⟨A0_0, c0_0, e0_0, hc0_0, hr0_0⟩ := hk0_0
  simp only [List.cons.injEq, and_true] at e0_0
  subst e0_0
  have k1_ := h1
  have lt1 : ∀ x ∈ p1, x.block < W.heap.size := by obtain ⟨m, hm⟩ := k1_; exact DataW.trod_lt m _ _ _ hm
  obtain ⟨nn1, h1_0⟩ := h1
  obtain ⟨A_, n_, c_, rfl⟩ := okWide_slice Try.underlying25 (hval 1 25 v1 rfl rfl)
  obtain ⟨l1, hk1, w1⟩ := opn_slice (d := k58) (Q := (fun x => (fun x => (Lit.int .i64 x).wf = true) x.f0 ∧ (fun x => (Lit.int .i64 x).wf = true) x.f1 ∧ (fun x => (Lit.int .i64 x).wf = true) x.f2 ∧ (fun x => (Lit.int .i64 x).wf = true) x.f3)) Try.underlying25 (by kernel_rfl) (fun _ _ _ h => opn_S58 h) h1_0
  obtain ⟨A1, c1, e1, hc1, hr1⟩ := hk1
  simp only [Value.cells, List.cons.injEq, and_true, Array.toList] at e1
  simp only [Value.slice.injEq] at e1
  obtain ⟨rfl, rfl, rfl⟩ := e1
  have k2_ := h2
  have lt2 : ∀ x ∈ p2, x.block < W.heap.size := by obtain ⟨m, hm⟩ := k2_; exact DataW.trod_lt m _ _ _ hm
  obtain ⟨nn2, h2_0⟩ := h2
  obtain ⟨n_, rfl⟩ := okWide_int Try.underlying3 (hval 2 3 v2 rfl rfl)
  obtain ⟨a2, e2, w2⟩ := opn_int Try.underlying3 h2_0
  replace e2 := List.head_eq_of_cons_eq e2
  simp only [Value.int.injEq, true_and] at e2
  subst n_
  clear hA0 hval0 hsz0
  refine (FnExactPartCover_ok _ _ l0_0 _ _ l1 a2 W hr0_0 hc0_0 hr1 hc1 w0_0 w1 w2).mono fun e W' ⟨he, bel0⟩ => ?_
  have bel : Below W.heap.size W W' := by first | exact bel0 | exact bel0.below
  subst he
  exact ⟨_, rfl, _, _, _, [], _, [], hW', trodAll_mk1 (shut_bool Try.underlying4 _), (trodAll_cons_mk (Below.trod laidOut (by kernel_rfl) (of_decide_eq_true (by kernel_rfl)) k0_ bel lt0) (trodAll_cons_mk (Below.trod laidOut (by kernel_rfl) (of_decide_eq_true (by kernel_rfl)) k1_ bel lt1) (trodAll_cons_mk (Below.trod laidOut (by kernel_rfl) (of_decide_eq_true (by kernel_rfl)) k2_ bel lt2) trodAll_mk0))), rfl, bel.frame _, fun h => by cases h⟩
theorem over : Rows.fnExactPartCoverRow.holds Try.pinned (OpenSpec.ofChange Rows.fnExactPartCoverSpec) :=
  OpenClaim.holds_of_wide 3 Try.f3 rfl rfl rfl rfl rfl rfl rfl ⟨rfl, rfl, rfl, rfl, rfl⟩ rfl rfl rfl rfl rfl (by kernel_rfl) Try.func3 (by kernel_rfl)
    (of_decide_eq_true (by kernel_rfl)) (by unfold Func.isWrapper; first | (rw [if_pos (by decide +kernel)]; kernel_rfl) | (rw [if_neg (by decide +kernel)]; exact ⟨rfl, rfl⟩))
    (fun os started H enc _ => lifted os started H enc)
theorem proved : Rows.FnExactPartCoverSaid := over
#print axioms proved
end Go.Proofs.Ytiiocpeeobjlgaa.fnExactPartCover
namespace Go.Proofs.Ytiiocpeeobjlgaa
theorem fnExactPartCover_holds : Rows.FnExactPartCoverSaid := fnExactPartCover.proved
end Go.Proofs.Ytiiocpeeobjlgaa
end
