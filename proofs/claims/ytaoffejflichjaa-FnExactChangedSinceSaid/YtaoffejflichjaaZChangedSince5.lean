/- The texts YtaoffejflichjaaWalkFnExactChangedSince, YtaoffejflichjaaOpen, YtaoffejflichjaaStFnExactChangedSince, YtaoffejflichjaaSm, YtaoffejflichjaaSeen, YtaoffejflichjaaL2Bytes, YtaoffejflichjaaOv, YtaoffejflichjaaCmpB, YtaoffejflichjaaWins, YtaoffejflichjaaEqInts, YtaoffejflichjaaMkInts, YtaoffejflichjaaMkBytes, YtaoffejflichjaaMkWins, YtaoffejflichjaaWatched, YtaoffejflichjaaTrodP, without what the row does not need: words for rows in memory, contracts of functions, plain lemmas, the row. -/
import Derived.Test.YtaoffejflichjaaZChangedSince4
import Derived.ProofKit
import Derived.Lib.SmallJoins
import Derived.Deep.Slices
import Derived.Deep.Strs
import Derived.WalkKit
import Derived.Lib.Bytes
section
namespace Go.Proofs.Ytaoffejflichjaa.P
open Go.RowKit Go.Proofs.YtaoffejflichjaaW.PrintWords Go.Proofs.YtaoffejflichjaaW.PrintLast Go.Proofs.YtaoffejflichjaaW.PrintMore
set_option linter.unusedVariables false
set_option linter.unusedSimpArgs false
set_option maxHeartbeats 8000000 in
set_option maxRecDepth 100000 in
theorem laws_FnExactChangedSince.exit1 (k : Nat) (A0_0 : Option Addr) (c0_0 : Nat) (l0_0 : List (List Int)) (A1 : Option Addr) (c1 : Nat) (l1 : List S26) (A2_0 : Option Addr) (c2_0 : Nat) (l2_0 : List (List Int)) (z4 : Int) (w : World) (hr0_0 : Kd.C (Kd.slice 5 (Kd.int .u8)) w A0_0 l0_0.length l0_0) (hc0_0 : l0_0.length ≤ c0_0) (hr1 : Kd.C k26 w A1 l1.length l1) (hc1 : l1.length ≤ c1) (hr2_0 : Kd.C (Kd.slice 5 (Kd.int .u8)) w A2_0 l2_0.length l2_0) (hc2_0 : l2_0.length ≤ c2_0) (hE1 : laws_szMemory.f k l0_0 1048576 = some z4) (hz4_no : z4 < 0) :
    Calls Try.prog 9 #[.agg #[.slice A0_0 l0_0.length c0_0], .slice A1 l1.length c1, .agg #[.slice A2_0 l2_0.length c2_0]] w fun e w' => e = .returned (.bool true) ∧ Below w.heap.size w w' := by
  have hu24 := Try.underlying24
  have hu31 := Try.underlying31
  have HR0_0 := Aside0.mk hr0_0
  have HC0_0 := Aside0.mk hc0_0
  clear hr0_0 hc0_0
  have HR1 := Aside0.mk hr1
  have HC1 := Aside0.mk hc1
  clear hr1 hc1
  have HR2_0 := Aside0.mk hr2_0
  have HC2_0 := Aside0.mk hc2_0
  clear hr2_0 hc2_0
  have E1 := Aside0.mk hE1
  clear hE1
  have d_z4 : decide (z4 < 0) = true := decide_eq_true hz4_no
  clear hz4_no
  have HB := Aside0.mk (Below.refl w.heap.size w)
  obtain ⟨n0, hn0⟩ : ∃ n_, n_ = w.heap.size := ⟨_, rfl⟩
  have HZ := Aside0.mk (Nat.le_of_eq hn0 : n0 ≤ w.heap.size)
  clear hn0
  go_enter Try.func9, Try.ntmps9
  go_wp2_with (first | ((with_reducible refine gate_dst (N := 3) rfl ?_); refine box_event ?hg (N := 3) ?hd (cs := #[.slice A0_0 l0_0.length c0_0]) (t := 24) ?hr ?_; (case hd => rfl); (case hg => rfl); (case hr => first | (go_simp; done) | (go_simp; rfl)); intro gb3 hg_ w3001 hbox hb; have mB_ := Aside0.mk (below_step (by (repeat (first | (with_reducible first | exact HB.out | apply below_alloc | apply pw_below_drewN | apply below_drew1) | exact HB.out))) hb); have mL_ := Aside0.mk (by (repeat (first | exact HZ.out | (with_reducible first | apply sz_alloc | apply sz_drewN | apply sz_drew | apply sz_set))) : n0 ≤ _); obtain ⟨n1, hn_⟩ : ∃ n_, n_ = w3001.heap.size := ⟨_, rfl⟩; have mN_ := Aside0.mk (by rw [hn_]; exact Nat.le_trans mL_.out hb.size : n0 ≤ n1); have mZ_ := Aside0.mk (Nat.le_of_eq hn_ : n1 ≤ w3001.heap.size); have xBK3_ := Aside0.mk (hbox); have xGE3_ := Aside0.mk (by rw [hg_]; exact below_size (by (repeat (first | (with_reducible first | exact HB.out | apply below_alloc | apply pw_below_drewN | apply below_drew1) | exact HB.out))) : w.heap.size ≤ gb3); have xHI3_ := Aside0.mk (⟨by rw [hg_]; exact mL_.out, by rw [hn_]; exact blk_lt hbox⟩ : n0 ≤ gb3 ∧ gb3 < n1); clear HB HZ; have HB := mB_; have HZ := mZ_; have HN1 := mN_; have BK3 := xBK3_; have GE3 := xGE3_; have HI3 := xHI3_; clear mB_ mN_ mZ_ mL_ xBK3_ xGE3_ xHI3_; (try clear hn_); clear hb hbox hg_) | ((with_reducible refine gate_dst (N := 5) rfl ?_); refine box_event ?hg (N := 5) ?hd (cs := #[.slice A2_0 l2_0.length c2_0]) (t := 24) ?hr ?_; (case hd => rfl); (case hg => rfl); (case hr => first | (go_simp; done) | (go_simp; rfl)); intro gb5 hg_ w3002 hbox hb; have m0_ := Aside0.mk (blk_below (g := gb3) (o := .cells #[.slice A0_0 l0_0.length c0_0] 24 (0, 0)) (by ((with_reducible repeat (first | refine blk_drewN ?_ _ | refine blk_drew ?_ | refine blk_alloc ?_ _)); exact BK3.out)) hb); have mB_ := Aside0.mk (below_step (by (repeat (first | (with_reducible first | exact HB.out | apply below_alloc | apply pw_below_drewN | apply below_drew1 | refine below_set ?_ GE3.out) | exact HB.out))) hb); have mL_ := Aside0.mk (by (repeat (first | exact HZ.out | (with_reducible first | apply sz_alloc | apply sz_drewN | apply sz_drew | apply sz_set))) : n1 ≤ _); obtain ⟨n2, hn_⟩ : ∃ n_, n_ = w3002.heap.size := ⟨_, rfl⟩; have mN_ := Aside0.mk (by rw [hn_]; exact Nat.le_trans mL_.out hb.size : n1 ≤ n2); have mZ_ := Aside0.mk (Nat.le_of_eq hn_ : n2 ≤ w3002.heap.size); have xBK5_ := Aside0.mk (hbox); have xGE5_ := Aside0.mk (by rw [hg_]; exact below_size (by (repeat (first | (with_reducible first | exact HB.out | apply below_alloc | apply pw_below_drewN | apply below_drew1 | refine below_set ?_ GE3.out) | exact HB.out))) : w.heap.size ≤ gb5); have xHI5_ := Aside0.mk (⟨by rw [hg_]; exact mL_.out, by rw [hn_]; exact blk_lt hbox⟩ : n1 ≤ gb5 ∧ gb5 < n2); clear BK3 HB HZ; have BK3 := m0_; have HB := mB_; have HZ := mZ_; have HN2 := mN_; have BK5 := xBK5_; have GE5 := xGE5_; have HI5 := xHI5_; clear m0_ mB_ mN_ mZ_ mL_ xBK5_ xGE5_ xHI5_; (try clear hn_); clear hb hbox hg_; have hc3_0 := (blk_cell BK3.out 0).trans (show (#[.slice A0_0 l0_0.length c0_0] : Array Value)[0]? = some (.slice A0_0 l0_0.length c0_0) from rfl); have hf3_0 := blk_frozen BK3.out 0) | ((with_reducible refine gate_callee (f := 12) rfl ?_); refine goesL_ (some 22) rfl rfl Try.func12 (by kernel_rfl) rfl #[.agg #[.slice A0_0 l0_0.length c0_0], .int .i64 1048576] rfl (by (try simp only [List.map_toArray, List.map_cons, List.map_nil]); first | done | rfl) ?_; (with_reducible refine (laws_szMemory.calls k _ _ l0_0 1048576 z4 _ ?sr0 ?sc0 E1.out).mono ?_); (case sr0 => exact Kd.C_below HR0_0.out (by (repeat (first | (with_reducible first | exact HB.out | apply below_alloc | apply pw_below_drewN | apply below_drew1 | refine below_set ?_ GE3.out | refine below_set ?_ GE5.out) | exact HB.out)))); (case sc0 => exact HC0_0.out); rintro e w1005 ⟨rfl, hb⟩; refine ⟨_, rfl, ?_⟩; have m0_ := Aside0.mk (blk_below (g := gb3) (o := .cells #[.slice A0_0 l0_0.length c0_0] 24 (0, 0)) (by ((with_reducible repeat (first | refine blk_drewN ?_ _ | refine blk_drew ?_ | refine blk_alloc ?_ _)); exact BK3.out)) hb); have m1_ := Aside0.mk (blk_below (g := gb5) (o := .cells #[.slice A2_0 l2_0.length c2_0] 24 (0, 0)) (by ((with_reducible repeat (first | refine blk_drewN ?_ _ | refine blk_drew ?_ | refine blk_alloc ?_ _)); exact BK5.out)) hb); have mB_ := Aside0.mk (below_step (by (repeat (first | (with_reducible first | exact HB.out | apply below_alloc | apply pw_below_drewN | apply below_drew1 | refine below_set ?_ GE3.out | refine below_set ?_ GE5.out) | exact HB.out))) hb); have mL_ := Aside0.mk (by (repeat (first | exact HZ.out | (with_reducible first | apply sz_alloc | apply sz_drewN | apply sz_drew | apply sz_set))) : n2 ≤ _); obtain ⟨n3, hn_⟩ : ∃ n_, n_ = w1005.heap.size := ⟨_, rfl⟩; have mN_ := Aside0.mk (by rw [hn_]; exact Nat.le_trans mL_.out hb.size : n2 ≤ n3); have mZ_ := Aside0.mk (Nat.le_of_eq hn_ : n3 ≤ w1005.heap.size); clear BK3 BK5 HB HZ; have BK3 := m0_; have BK5 := m1_; have HB := mB_; have HZ := mZ_; have HN3 := mN_; clear m0_ m1_ mB_ mN_ mZ_ mL_; (try clear hn_); clear hb))
  go_ret
  exact ⟨rfl, by (repeat (first | (with_reducible first | exact HB.out | apply below_alloc | apply pw_below_drewN | apply below_drew1 | refine below_set ?_ GE3.out | refine below_set ?_ GE5.out) | exact HB.out))⟩
set_option maxHeartbeats 8000000 in
set_option maxRecDepth 100000 in
theorem laws_FnExactChangedSince.exit2 (k : Nat) (A0_0 : Option Addr) (c0_0 : Nat) (l0_0 : List (List Int)) (A1 : Option Addr) (c1 : Nat) (l1 : List S26) (A2_0 : Option Addr) (c2_0 : Nat) (l2_0 : List (List Int)) (z4 : Int) (z6 : Int) (w : World) (hr0_0 : Kd.C (Kd.slice 5 (Kd.int .u8)) w A0_0 l0_0.length l0_0) (hc0_0 : l0_0.length ≤ c0_0) (hr1 : Kd.C k26 w A1 l1.length l1) (hc1 : l1.length ≤ c1) (hr2_0 : Kd.C (Kd.slice 5 (Kd.int .u8)) w A2_0 l2_0.length l2_0) (hc2_0 : l2_0.length ≤ c2_0) (hE1 : laws_szMemory.f k l0_0 1048576 = some z4) (hE2 : laws_szWindowS.f l1 z4 = some z6) (hz4_no : ¬ z4 < 0) (hz6_no : z6 < 0) :
    Calls Try.prog 9 #[.agg #[.slice A0_0 l0_0.length c0_0], .slice A1 l1.length c1, .agg #[.slice A2_0 l2_0.length c2_0]] w fun e w' => e = .returned (.bool true) ∧ Below w.heap.size w w' := by
  have hu24 := Try.underlying24
  have hu31 := Try.underlying31
  have HR0_0 := Aside0.mk hr0_0
  have HC0_0 := Aside0.mk hc0_0
  clear hr0_0 hc0_0
  have HR1 := Aside0.mk hr1
  have HC1 := Aside0.mk hc1
  clear hr1 hc1
  have HR2_0 := Aside0.mk hr2_0
  have HC2_0 := Aside0.mk hc2_0
  clear hr2_0 hc2_0
  have E1 := Aside0.mk hE1
  clear hE1
  have E2 := Aside0.mk hE2
  clear hE2
  have d_z4 : decide (z4 < 0) = false := decide_eq_false hz4_no
  clear hz4_no
  have d_z6 : decide (z6 < 0) = true := decide_eq_true hz6_no
  clear hz6_no
  have HB := Aside0.mk (Below.refl w.heap.size w)
  obtain ⟨n0, hn0⟩ : ∃ n_, n_ = w.heap.size := ⟨_, rfl⟩
  have HZ := Aside0.mk (Nat.le_of_eq hn0 : n0 ≤ w.heap.size)
  clear hn0
  go_enter Try.func9, Try.ntmps9
  go_wp2_with (first | ((with_reducible refine gate_dst (N := 3) rfl ?_); refine box_event ?hg (N := 3) ?hd (cs := #[.slice A0_0 l0_0.length c0_0]) (t := 24) ?hr ?_; (case hd => rfl); (case hg => rfl); (case hr => first | (go_simp; done) | (go_simp; rfl)); intro gb3 hg_ w3001 hbox hb; have mB_ := Aside0.mk (below_step (by (repeat (first | (with_reducible first | exact HB.out | apply below_alloc | apply pw_below_drewN | apply below_drew1) | exact HB.out))) hb); have mL_ := Aside0.mk (by (repeat (first | exact HZ.out | (with_reducible first | apply sz_alloc | apply sz_drewN | apply sz_drew | apply sz_set))) : n0 ≤ _); obtain ⟨n1, hn_⟩ : ∃ n_, n_ = w3001.heap.size := ⟨_, rfl⟩; have mN_ := Aside0.mk (by rw [hn_]; exact Nat.le_trans mL_.out hb.size : n0 ≤ n1); have mZ_ := Aside0.mk (Nat.le_of_eq hn_ : n1 ≤ w3001.heap.size); have xBK3_ := Aside0.mk (hbox); have xGE3_ := Aside0.mk (by rw [hg_]; exact below_size (by (repeat (first | (with_reducible first | exact HB.out | apply below_alloc | apply pw_below_drewN | apply below_drew1) | exact HB.out))) : w.heap.size ≤ gb3); have xHI3_ := Aside0.mk (⟨by rw [hg_]; exact mL_.out, by rw [hn_]; exact blk_lt hbox⟩ : n0 ≤ gb3 ∧ gb3 < n1); clear HB HZ; have HB := mB_; have HZ := mZ_; have HN1 := mN_; have BK3 := xBK3_; have GE3 := xGE3_; have HI3 := xHI3_; clear mB_ mN_ mZ_ mL_ xBK3_ xGE3_ xHI3_; (try clear hn_); clear hb hbox hg_) | ((with_reducible refine gate_dst (N := 5) rfl ?_); refine box_event ?hg (N := 5) ?hd (cs := #[.slice A2_0 l2_0.length c2_0]) (t := 24) ?hr ?_; (case hd => rfl); (case hg => rfl); (case hr => first | (go_simp; done) | (go_simp; rfl)); intro gb5 hg_ w3002 hbox hb; have m0_ := Aside0.mk (blk_below (g := gb3) (o := .cells #[.slice A0_0 l0_0.length c0_0] 24 (0, 0)) (by ((with_reducible repeat (first | refine blk_drewN ?_ _ | refine blk_drew ?_ | refine blk_alloc ?_ _)); exact BK3.out)) hb); have mB_ := Aside0.mk (below_step (by (repeat (first | (with_reducible first | exact HB.out | apply below_alloc | apply pw_below_drewN | apply below_drew1 | refine below_set ?_ GE3.out) | exact HB.out))) hb); have mL_ := Aside0.mk (by (repeat (first | exact HZ.out | (with_reducible first | apply sz_alloc | apply sz_drewN | apply sz_drew | apply sz_set))) : n1 ≤ _); obtain ⟨n2, hn_⟩ : ∃ n_, n_ = w3002.heap.size := ⟨_, rfl⟩; have mN_ := Aside0.mk (by rw [hn_]; exact Nat.le_trans mL_.out hb.size : n1 ≤ n2); have mZ_ := Aside0.mk (Nat.le_of_eq hn_ : n2 ≤ w3002.heap.size); have xBK5_ := Aside0.mk (hbox); have xGE5_ := Aside0.mk (by rw [hg_]; exact below_size (by (repeat (first | (with_reducible first | exact HB.out | apply below_alloc | apply pw_below_drewN | apply below_drew1 | refine below_set ?_ GE3.out) | exact HB.out))) : w.heap.size ≤ gb5); have xHI5_ := Aside0.mk (⟨by rw [hg_]; exact mL_.out, by rw [hn_]; exact blk_lt hbox⟩ : n1 ≤ gb5 ∧ gb5 < n2); clear BK3 HB HZ; have BK3 := m0_; have HB := mB_; have HZ := mZ_; have HN2 := mN_; have BK5 := xBK5_; have GE5 := xGE5_; have HI5 := xHI5_; clear m0_ mB_ mN_ mZ_ mL_ xBK5_ xGE5_ xHI5_; (try clear hn_); clear hb hbox hg_; have hc3_0 := (blk_cell BK3.out 0).trans (show (#[.slice A0_0 l0_0.length c0_0] : Array Value)[0]? = some (.slice A0_0 l0_0.length c0_0) from rfl); have hf3_0 := blk_frozen BK3.out 0) | ((with_reducible refine gate_callee (f := 12) rfl ?_); refine goesL_ (some 22) rfl rfl Try.func12 (by kernel_rfl) rfl #[.agg #[.slice A0_0 l0_0.length c0_0], .int .i64 1048576] rfl (by (try simp only [List.map_toArray, List.map_cons, List.map_nil]); first | done | rfl) ?_; (with_reducible refine (laws_szMemory.calls k _ _ l0_0 1048576 z4 _ ?sr0 ?sc0 E1.out).mono ?_); (case sr0 => exact Kd.C_below HR0_0.out (by (repeat (first | (with_reducible first | exact HB.out | apply below_alloc | apply pw_below_drewN | apply below_drew1 | refine below_set ?_ GE3.out | refine below_set ?_ GE5.out) | exact HB.out)))); (case sc0 => exact HC0_0.out); rintro e w1005 ⟨rfl, hb⟩; refine ⟨_, rfl, ?_⟩; have m0_ := Aside0.mk (blk_below (g := gb3) (o := .cells #[.slice A0_0 l0_0.length c0_0] 24 (0, 0)) (by ((with_reducible repeat (first | refine blk_drewN ?_ _ | refine blk_drew ?_ | refine blk_alloc ?_ _)); exact BK3.out)) hb); have m1_ := Aside0.mk (blk_below (g := gb5) (o := .cells #[.slice A2_0 l2_0.length c2_0] 24 (0, 0)) (by ((with_reducible repeat (first | refine blk_drewN ?_ _ | refine blk_drew ?_ | refine blk_alloc ?_ _)); exact BK5.out)) hb); have mB_ := Aside0.mk (below_step (by (repeat (first | (with_reducible first | exact HB.out | apply below_alloc | apply pw_below_drewN | apply below_drew1 | refine below_set ?_ GE3.out | refine below_set ?_ GE5.out) | exact HB.out))) hb); have mL_ := Aside0.mk (by (repeat (first | exact HZ.out | (with_reducible first | apply sz_alloc | apply sz_drewN | apply sz_drew | apply sz_set))) : n2 ≤ _); obtain ⟨n3, hn_⟩ : ∃ n_, n_ = w1005.heap.size := ⟨_, rfl⟩; have mN_ := Aside0.mk (by rw [hn_]; exact Nat.le_trans mL_.out hb.size : n2 ≤ n3); have mZ_ := Aside0.mk (Nat.le_of_eq hn_ : n3 ≤ w1005.heap.size); clear BK3 BK5 HB HZ; have BK3 := m0_; have BK5 := m1_; have HB := mB_; have HZ := mZ_; have HN3 := mN_; clear m0_ m1_ mB_ mN_ mZ_ mL_; (try clear hn_); clear hb) | ((with_reducible refine gate_callee (f := 22) rfl ?_); refine goesL_ (some 27) rfl rfl Try.func22 (by kernel_rfl) rfl #[.slice A1 l1.length c1, .int .i64 z4] rfl (by (try simp only [List.map_toArray, List.map_cons, List.map_nil]); first | done | rfl) ?_; (with_reducible refine (laws_szWindowS.calls _ _ l1 z4 z6 _ ?sr0 ?sc0 E2.out).mono ?_); (case sr0 => exact Kd.C_below HR1.out (by (repeat (first | (with_reducible first | exact HB.out | apply below_alloc | apply pw_below_drewN | apply below_drew1 | refine below_set ?_ GE3.out | refine below_set ?_ GE5.out) | exact HB.out)))); (case sc0 => exact HC1.out); rintro e w1008 ⟨rfl, hd_⟩; have hb := hd_.below; clear hd_; refine ⟨_, rfl, ?_⟩; have m0_ := Aside0.mk (blk_below (g := gb3) (o := .cells #[.slice A0_0 l0_0.length c0_0] 24 (0, 0)) (by ((with_reducible repeat (first | refine blk_drewN ?_ _ | refine blk_drew ?_ | refine blk_alloc ?_ _)); exact BK3.out)) hb); have m1_ := Aside0.mk (blk_below (g := gb5) (o := .cells #[.slice A2_0 l2_0.length c2_0] 24 (0, 0)) (by ((with_reducible repeat (first | refine blk_drewN ?_ _ | refine blk_drew ?_ | refine blk_alloc ?_ _)); exact BK5.out)) hb); have mB_ := Aside0.mk (below_step (by (repeat (first | (with_reducible first | exact HB.out | apply below_alloc | apply pw_below_drewN | apply below_drew1 | refine below_set ?_ GE3.out | refine below_set ?_ GE5.out) | exact HB.out))) hb); have mL_ := Aside0.mk (by (repeat (first | exact HZ.out | (with_reducible first | apply sz_alloc | apply sz_drewN | apply sz_drew | apply sz_set))) : n3 ≤ _); obtain ⟨n4, hn_⟩ : ∃ n_, n_ = w1008.heap.size := ⟨_, rfl⟩; have mN_ := Aside0.mk (by rw [hn_]; exact Nat.le_trans mL_.out hb.size : n3 ≤ n4); have mZ_ := Aside0.mk (Nat.le_of_eq hn_ : n4 ≤ w1008.heap.size); clear BK3 BK5 HB HZ; have BK3 := m0_; have BK5 := m1_; have HB := mB_; have HZ := mZ_; have HN4 := mN_; clear m0_ m1_ mB_ mN_ mZ_ mL_; (try clear hn_); clear hb; have hc8_0 := (blk_cell BK5.out 0).trans (show (#[.slice A2_0 l2_0.length c2_0] : Array Value)[0]? = some (.slice A2_0 l2_0.length c2_0) from rfl); have hf8_0 := blk_frozen BK5.out 0))
  go_ret
  exact ⟨rfl, by (repeat (first | (with_reducible first | exact HB.out | apply below_alloc | apply pw_below_drewN | apply below_drew1 | refine below_set ?_ GE3.out | refine below_set ?_ GE5.out) | exact HB.out))⟩
set_option maxHeartbeats 8000000 in
set_option maxRecDepth 100000 in
theorem laws_FnExactChangedSince.exit3 (k : Nat) (A0_0 : Option Addr) (c0_0 : Nat) (l0_0 : List (List Int)) (A1 : Option Addr) (c1 : Nat) (l1 : List S26) (A2_0 : Option Addr) (c2_0 : Nat) (l2_0 : List (List Int)) (z4 : Int) (z6 : Int) (z9 : Int) (w : World) (hr0_0 : Kd.C (Kd.slice 5 (Kd.int .u8)) w A0_0 l0_0.length l0_0) (hc0_0 : l0_0.length ≤ c0_0) (hr1 : Kd.C k26 w A1 l1.length l1) (hc1 : l1.length ≤ c1) (hr2_0 : Kd.C (Kd.slice 5 (Kd.int .u8)) w A2_0 l2_0.length l2_0) (hc2_0 : l2_0.length ≤ c2_0) (hE1 : laws_szMemory.f k l0_0 1048576 = some z4) (hE2 : laws_szWindowS.f l1 z4 = some z6) (hE3 : laws_szMemory.f k l2_0 z6 = some z9) (hz4_no : ¬ z4 < 0) (hz6_no : ¬ z6 < 0) (hz9_no : z9 < 0) :
    Calls Try.prog 9 #[.agg #[.slice A0_0 l0_0.length c0_0], .slice A1 l1.length c1, .agg #[.slice A2_0 l2_0.length c2_0]] w fun e w' => e = .returned (.bool true) ∧ Below w.heap.size w w' := by
  have hu24 := Try.underlying24
  have hu31 := Try.underlying31
  have HR0_0 := Aside0.mk hr0_0
  have HC0_0 := Aside0.mk hc0_0
  clear hr0_0 hc0_0
  have HR1 := Aside0.mk hr1
  have HC1 := Aside0.mk hc1
  clear hr1 hc1
  have HR2_0 := Aside0.mk hr2_0
  have HC2_0 := Aside0.mk hc2_0
  clear hr2_0 hc2_0
  have E1 := Aside0.mk hE1
  clear hE1
  have E2 := Aside0.mk hE2
  clear hE2
  have E3 := Aside0.mk hE3
  clear hE3
  have d_z4 : decide (z4 < 0) = false := decide_eq_false hz4_no
  clear hz4_no
  have d_z6 : decide (z6 < 0) = false := decide_eq_false hz6_no
  clear hz6_no
  have d_z9 : decide (z9 < 0) = true := decide_eq_true hz9_no
  clear hz9_no
  have HB := Aside0.mk (Below.refl w.heap.size w)
  obtain ⟨n0, hn0⟩ : ∃ n_, n_ = w.heap.size := ⟨_, rfl⟩
  have HZ := Aside0.mk (Nat.le_of_eq hn0 : n0 ≤ w.heap.size)
  clear hn0
  go_enter Try.func9, Try.ntmps9
  go_wp2_with (first | ((with_reducible refine gate_dst (N := 3) rfl ?_); refine box_event ?hg (N := 3) ?hd (cs := #[.slice A0_0 l0_0.length c0_0]) (t := 24) ?hr ?_; (case hd => rfl); (case hg => rfl); (case hr => first | (go_simp; done) | (go_simp; rfl)); intro gb3 hg_ w3001 hbox hb; have mB_ := Aside0.mk (below_step (by (repeat (first | (with_reducible first | exact HB.out | apply below_alloc | apply pw_below_drewN | apply below_drew1) | exact HB.out))) hb); have mL_ := Aside0.mk (by (repeat (first | exact HZ.out | (with_reducible first | apply sz_alloc | apply sz_drewN | apply sz_drew | apply sz_set))) : n0 ≤ _); obtain ⟨n1, hn_⟩ : ∃ n_, n_ = w3001.heap.size := ⟨_, rfl⟩; have mN_ := Aside0.mk (by rw [hn_]; exact Nat.le_trans mL_.out hb.size : n0 ≤ n1); have mZ_ := Aside0.mk (Nat.le_of_eq hn_ : n1 ≤ w3001.heap.size); have xBK3_ := Aside0.mk (hbox); have xGE3_ := Aside0.mk (by rw [hg_]; exact below_size (by (repeat (first | (with_reducible first | exact HB.out | apply below_alloc | apply pw_below_drewN | apply below_drew1) | exact HB.out))) : w.heap.size ≤ gb3); have xHI3_ := Aside0.mk (⟨by rw [hg_]; exact mL_.out, by rw [hn_]; exact blk_lt hbox⟩ : n0 ≤ gb3 ∧ gb3 < n1); clear HB HZ; have HB := mB_; have HZ := mZ_; have HN1 := mN_; have BK3 := xBK3_; have GE3 := xGE3_; have HI3 := xHI3_; clear mB_ mN_ mZ_ mL_ xBK3_ xGE3_ xHI3_; (try clear hn_); clear hb hbox hg_) | ((with_reducible refine gate_dst (N := 5) rfl ?_); refine box_event ?hg (N := 5) ?hd (cs := #[.slice A2_0 l2_0.length c2_0]) (t := 24) ?hr ?_; (case hd => rfl); (case hg => rfl); (case hr => first | (go_simp; done) | (go_simp; rfl)); intro gb5 hg_ w3002 hbox hb; have m0_ := Aside0.mk (blk_below (g := gb3) (o := .cells #[.slice A0_0 l0_0.length c0_0] 24 (0, 0)) (by ((with_reducible repeat (first | refine blk_drewN ?_ _ | refine blk_drew ?_ | refine blk_alloc ?_ _)); exact BK3.out)) hb); have mB_ := Aside0.mk (below_step (by (repeat (first | (with_reducible first | exact HB.out | apply below_alloc | apply pw_below_drewN | apply below_drew1 | refine below_set ?_ GE3.out) | exact HB.out))) hb); have mL_ := Aside0.mk (by (repeat (first | exact HZ.out | (with_reducible first | apply sz_alloc | apply sz_drewN | apply sz_drew | apply sz_set))) : n1 ≤ _); obtain ⟨n2, hn_⟩ : ∃ n_, n_ = w3002.heap.size := ⟨_, rfl⟩; have mN_ := Aside0.mk (by rw [hn_]; exact Nat.le_trans mL_.out hb.size : n1 ≤ n2); have mZ_ := Aside0.mk (Nat.le_of_eq hn_ : n2 ≤ w3002.heap.size); have xBK5_ := Aside0.mk (hbox); have xGE5_ := Aside0.mk (by rw [hg_]; exact below_size (by (repeat (first | (with_reducible first | exact HB.out | apply below_alloc | apply pw_below_drewN | apply below_drew1 | refine below_set ?_ GE3.out) | exact HB.out))) : w.heap.size ≤ gb5); have xHI5_ := Aside0.mk (⟨by rw [hg_]; exact mL_.out, by rw [hn_]; exact blk_lt hbox⟩ : n1 ≤ gb5 ∧ gb5 < n2); clear BK3 HB HZ; have BK3 := m0_; have HB := mB_; have HZ := mZ_; have HN2 := mN_; have BK5 := xBK5_; have GE5 := xGE5_; have HI5 := xHI5_; clear m0_ mB_ mN_ mZ_ mL_ xBK5_ xGE5_ xHI5_; (try clear hn_); clear hb hbox hg_; have hc3_0 := (blk_cell BK3.out 0).trans (show (#[.slice A0_0 l0_0.length c0_0] : Array Value)[0]? = some (.slice A0_0 l0_0.length c0_0) from rfl); have hf3_0 := blk_frozen BK3.out 0) | ((with_reducible refine gate_callee (f := 12) rfl ?_); refine goesL_ (some 22) rfl rfl Try.func12 (by kernel_rfl) rfl #[.agg #[.slice A0_0 l0_0.length c0_0], .int .i64 1048576] rfl (by (try simp only [List.map_toArray, List.map_cons, List.map_nil]); first | done | rfl) ?_; (with_reducible refine (laws_szMemory.calls k _ _ l0_0 1048576 z4 _ ?sr0 ?sc0 E1.out).mono ?_); (case sr0 => exact Kd.C_below HR0_0.out (by (repeat (first | (with_reducible first | exact HB.out | apply below_alloc | apply pw_below_drewN | apply below_drew1 | refine below_set ?_ GE3.out | refine below_set ?_ GE5.out) | exact HB.out)))); (case sc0 => exact HC0_0.out); rintro e w1005 ⟨rfl, hb⟩; refine ⟨_, rfl, ?_⟩; have m0_ := Aside0.mk (blk_below (g := gb3) (o := .cells #[.slice A0_0 l0_0.length c0_0] 24 (0, 0)) (by ((with_reducible repeat (first | refine blk_drewN ?_ _ | refine blk_drew ?_ | refine blk_alloc ?_ _)); exact BK3.out)) hb); have m1_ := Aside0.mk (blk_below (g := gb5) (o := .cells #[.slice A2_0 l2_0.length c2_0] 24 (0, 0)) (by ((with_reducible repeat (first | refine blk_drewN ?_ _ | refine blk_drew ?_ | refine blk_alloc ?_ _)); exact BK5.out)) hb); have mB_ := Aside0.mk (below_step (by (repeat (first | (with_reducible first | exact HB.out | apply below_alloc | apply pw_below_drewN | apply below_drew1 | refine below_set ?_ GE3.out | refine below_set ?_ GE5.out) | exact HB.out))) hb); have mL_ := Aside0.mk (by (repeat (first | exact HZ.out | (with_reducible first | apply sz_alloc | apply sz_drewN | apply sz_drew | apply sz_set))) : n2 ≤ _); obtain ⟨n3, hn_⟩ : ∃ n_, n_ = w1005.heap.size := ⟨_, rfl⟩; have mN_ := Aside0.mk (by rw [hn_]; exact Nat.le_trans mL_.out hb.size : n2 ≤ n3); have mZ_ := Aside0.mk (Nat.le_of_eq hn_ : n3 ≤ w1005.heap.size); clear BK3 BK5 HB HZ; have BK3 := m0_; have BK5 := m1_; have HB := mB_; have HZ := mZ_; have HN3 := mN_; clear m0_ m1_ mB_ mN_ mZ_ mL_; (try clear hn_); clear hb) | ((with_reducible refine gate_callee (f := 22) rfl ?_); refine goesL_ (some 27) rfl rfl Try.func22 (by kernel_rfl) rfl #[.slice A1 l1.length c1, .int .i64 z4] rfl (by (try simp only [List.map_toArray, List.map_cons, List.map_nil]); first | done | rfl) ?_; (with_reducible refine (laws_szWindowS.calls _ _ l1 z4 z6 _ ?sr0 ?sc0 E2.out).mono ?_); (case sr0 => exact Kd.C_below HR1.out (by (repeat (first | (with_reducible first | exact HB.out | apply below_alloc | apply pw_below_drewN | apply below_drew1 | refine below_set ?_ GE3.out | refine below_set ?_ GE5.out) | exact HB.out)))); (case sc0 => exact HC1.out); rintro e w1008 ⟨rfl, hd_⟩; have hb := hd_.below; clear hd_; refine ⟨_, rfl, ?_⟩; have m0_ := Aside0.mk (blk_below (g := gb3) (o := .cells #[.slice A0_0 l0_0.length c0_0] 24 (0, 0)) (by ((with_reducible repeat (first | refine blk_drewN ?_ _ | refine blk_drew ?_ | refine blk_alloc ?_ _)); exact BK3.out)) hb); have m1_ := Aside0.mk (blk_below (g := gb5) (o := .cells #[.slice A2_0 l2_0.length c2_0] 24 (0, 0)) (by ((with_reducible repeat (first | refine blk_drewN ?_ _ | refine blk_drew ?_ | refine blk_alloc ?_ _)); exact BK5.out)) hb); have mB_ := Aside0.mk (below_step (by (repeat (first | (with_reducible first | exact HB.out | apply below_alloc | apply pw_below_drewN | apply below_drew1 | refine below_set ?_ GE3.out | refine below_set ?_ GE5.out) | exact HB.out))) hb); have mL_ := Aside0.mk (by (repeat (first | exact HZ.out | (with_reducible first | apply sz_alloc | apply sz_drewN | apply sz_drew | apply sz_set))) : n3 ≤ _); obtain ⟨n4, hn_⟩ : ∃ n_, n_ = w1008.heap.size := ⟨_, rfl⟩; have mN_ := Aside0.mk (by rw [hn_]; exact Nat.le_trans mL_.out hb.size : n3 ≤ n4); have mZ_ := Aside0.mk (Nat.le_of_eq hn_ : n4 ≤ w1008.heap.size); clear BK3 BK5 HB HZ; have BK3 := m0_; have BK5 := m1_; have HB := mB_; have HZ := mZ_; have HN4 := mN_; clear m0_ m1_ mB_ mN_ mZ_ mL_; (try clear hn_); clear hb; have hc8_0 := (blk_cell BK5.out 0).trans (show (#[.slice A2_0 l2_0.length c2_0] : Array Value)[0]? = some (.slice A2_0 l2_0.length c2_0) from rfl); have hf8_0 := blk_frozen BK5.out 0) | ((with_reducible refine gate_callee (f := 12) rfl ?_); refine goesL_ (some 32) rfl rfl Try.func12 (by kernel_rfl) rfl #[.agg #[.slice A2_0 l2_0.length c2_0], .int .i64 z6] rfl (by (try simp only [List.map_toArray, List.map_cons, List.map_nil]); first | done | rfl) ?_; (with_reducible refine (laws_szMemory.calls k _ _ l2_0 z6 z9 _ ?sr0 ?sc0 E3.out).mono ?_); (case sr0 => exact Kd.C_below HR2_0.out (by (repeat (first | (with_reducible first | exact HB.out | apply below_alloc | apply pw_below_drewN | apply below_drew1 | refine below_set ?_ GE3.out | refine below_set ?_ GE5.out) | exact HB.out)))); (case sc0 => exact HC2_0.out); rintro e w1012 ⟨rfl, hb⟩; refine ⟨_, rfl, ?_⟩; have m0_ := Aside0.mk (blk_below (g := gb3) (o := .cells #[.slice A0_0 l0_0.length c0_0] 24 (0, 0)) (by ((with_reducible repeat (first | refine blk_drewN ?_ _ | refine blk_drew ?_ | refine blk_alloc ?_ _)); exact BK3.out)) hb); have m1_ := Aside0.mk (blk_below (g := gb5) (o := .cells #[.slice A2_0 l2_0.length c2_0] 24 (0, 0)) (by ((with_reducible repeat (first | refine blk_drewN ?_ _ | refine blk_drew ?_ | refine blk_alloc ?_ _)); exact BK5.out)) hb); have mB_ := Aside0.mk (below_step (by (repeat (first | (with_reducible first | exact HB.out | apply below_alloc | apply pw_below_drewN | apply below_drew1 | refine below_set ?_ GE3.out | refine below_set ?_ GE5.out) | exact HB.out))) hb); have mL_ := Aside0.mk (by (repeat (first | exact HZ.out | (with_reducible first | apply sz_alloc | apply sz_drewN | apply sz_drew | apply sz_set))) : n4 ≤ _); obtain ⟨n5, hn_⟩ : ∃ n_, n_ = w1012.heap.size := ⟨_, rfl⟩; have mN_ := Aside0.mk (by rw [hn_]; exact Nat.le_trans mL_.out hb.size : n4 ≤ n5); have mZ_ := Aside0.mk (Nat.le_of_eq hn_ : n5 ≤ w1012.heap.size); clear BK3 BK5 HB HZ; have BK3 := m0_; have BK5 := m1_; have HB := mB_; have HZ := mZ_; have HN5 := mN_; clear m0_ m1_ mB_ mN_ mZ_ mL_; (try clear hn_); clear hb))
  go_ret
  exact ⟨rfl, by (repeat (first | (with_reducible first | exact HB.out | apply below_alloc | apply pw_below_drewN | apply below_drew1 | refine below_set ?_ GE3.out | refine below_set ?_ GE5.out) | exact HB.out))⟩
set_option maxHeartbeats 8000000 in
set_option maxRecDepth 100000 in
theorem laws_FnExactChangedSince.walk (k : Nat) (A0_0 : Option Addr) (c0_0 : Nat) (l0_0 : List (List Int)) (A1 : Option Addr) (c1 : Nat) (l1 : List S26) (A2_0 : Option Addr) (c2_0 : Nat) (l2_0 : List (List Int)) (z4 : Int) (z6 : Int) (z9 : Int) (t13 : List (List Int)) (t17 : List (S33)) (t21 : List (List Int)) (g24 : List Int) (ok25 : Bool) (s26 : List Int) (m63 : Int) (y64 : List (List Int)) (m66 : Int) (y67 : List (S33)) (m70 : Int) (y71 : List (List Int)) (m74 : Int) (y75 : List Int) (w : World) (hr0_0 : Kd.C (Kd.slice 5 (Kd.int .u8)) w A0_0 l0_0.length l0_0) (hc0_0 : l0_0.length ≤ c0_0) (hr1 : Kd.C k26 w A1 l1.length l1) (hc1 : l1.length ≤ c1) (hr2_0 : Kd.C (Kd.slice 5 (Kd.int .u8)) w A2_0 l2_0.length l2_0) (hc2_0 : l2_0.length ≤ c2_0) (hE1 : laws_szMemory.f k l0_0 1048576 = some z4) (hE2 : laws_szWindowS.f l1 z4 = some z6) (hE3 : laws_szMemory.f k l2_0 z6 = some z9) (hE4 : laws_toMemory.f k l0_0 = some t13) (hE5 : laws_toWindowS.f k l1 = some t17) (hE6 : laws_toMemory.f k l2_0 = some t21) (hE7 : spec_ChangedSince.f k t13 t17 t21 = some (s26, ok25)) (hE11 : impl_ChangedSince.f k t13 t17 t21 = some (g24, ok25)) (hE12 : laws_eqIntS.f k g24 s26 = some true) (hE14 : laws_eqMemory.f k t13 t13 = some true) (hE16 : laws_eqWindowS.f k t17 t17 = some true) (hE18 : laws_eqMemory.f k t21 t21 = some true) (hE19 : laws_markMemory.f k t13 1 = some (m63, y64)) (hE20 : laws_markWindowS.f k t17 m63 = some (m66, y67)) (hE21 : laws_markMemory.f k t21 m66 = some (m70, y71)) (hE23 : laws_markIntS.f k g24 1 = some (m74, y75)) (hE24 : laws_heldIntS.f k y75 1 = some m74) (hz4_no : ¬ z4 < 0) (hz6_no : ¬ z6 < 0) (hz9_no : ¬ z9 < 0) (hm63_no : ¬ m63 < 0) (hm66_no : ¬ m66 < 0) (hm70_no : ¬ m70 < 0) (hm74_no : ¬ m74 < 0) :
    Calls Try.prog 9 #[.agg #[.slice A0_0 l0_0.length c0_0], .slice A1 l1.length c1, .agg #[.slice A2_0 l2_0.length c2_0]] w fun e w' => e = .returned (.bool true) ∧ Below w.heap.size w w' := by
  have hu24 := Try.underlying24
  have hu31 := Try.underlying31
  have HR0_0 := Aside0.mk hr0_0
  have HC0_0 := Aside0.mk hc0_0
  clear hr0_0 hc0_0
  have HR1 := Aside0.mk hr1
  have HC1 := Aside0.mk hc1
  clear hr1 hc1
  have HR2_0 := Aside0.mk hr2_0
  have HC2_0 := Aside0.mk hc2_0
  clear hr2_0 hc2_0
  have E1 := Aside0.mk hE1
  clear hE1
  have E2 := Aside0.mk hE2
  clear hE2
  have E3 := Aside0.mk hE3
  clear hE3
  have E4 := Aside0.mk hE4
  clear hE4
  have E5 := Aside0.mk hE5
  clear hE5
  have E6 := Aside0.mk hE6
  clear hE6
  have E7 := Aside0.mk hE7
  clear hE7
  have E11 := Aside0.mk hE11
  clear hE11
  have E12 := Aside0.mk hE12
  clear hE12
  have E14 := Aside0.mk hE14
  clear hE14
  have E16 := Aside0.mk hE16
  clear hE16
  have E18 := Aside0.mk hE18
  clear hE18
  have E19 := Aside0.mk hE19
  clear hE19
  have E20 := Aside0.mk hE20
  clear hE20
  have E21 := Aside0.mk hE21
  clear hE21
  have E23 := Aside0.mk hE23
  clear hE23
  have E24 := Aside0.mk hE24
  clear hE24
  have d_z4 : decide (z4 < 0) = false := decide_eq_false hz4_no
  clear hz4_no
  have d_z6 : decide (z6 < 0) = false := decide_eq_false hz6_no
  clear hz6_no
  have d_z9 : decide (z9 < 0) = false := decide_eq_false hz9_no
  clear hz9_no
  have d_m63 : decide (m63 < 0) = false := decide_eq_false hm63_no
  clear hm63_no
  have d_m66 : decide (m66 < 0) = false := decide_eq_false hm66_no
  clear hm66_no
  have d_m70 : decide (m70 < 0) = false := decide_eq_false hm70_no
  clear hm70_no
  have d_m74 : decide (m74 < 0) = false := decide_eq_false hm74_no
  clear hm74_no
  have b_ok25 : (ok25 != ok25) = false := by cases ok25 <;> rfl
  have HB := Aside0.mk (Below.refl w.heap.size w)
  obtain ⟨n0, hn0⟩ : ∃ n_, n_ = w.heap.size := ⟨_, rfl⟩
  have HZ := Aside0.mk (Nat.le_of_eq hn0 : n0 ≤ w.heap.size)
  clear hn0
  go_enter Try.func9, Try.ntmps9
  go_upto_region 11 with (first | ((with_reducible refine gate_dst (N := 3) rfl ?_); refine box_event ?hg (N := 3) ?hd (cs := #[.slice A0_0 l0_0.length c0_0]) (t := 24) ?hr ?_; (case hd => rfl); (case hg => rfl); (case hr => first | (go_simp; done) | (go_simp; rfl)); intro gb3 hg_ w3001 hbox hb; have mB_ := Aside0.mk (below_step (by (repeat (first | (with_reducible first | exact HB.out | apply below_alloc | apply pw_below_drewN | apply below_drew1) | exact HB.out))) hb); have mL_ := Aside0.mk (by (repeat (first | exact HZ.out | (with_reducible first | apply sz_alloc | apply sz_drewN | apply sz_drew | apply sz_set))) : n0 ≤ _); obtain ⟨n1, hn_⟩ : ∃ n_, n_ = w3001.heap.size := ⟨_, rfl⟩; have mN_ := Aside0.mk (by rw [hn_]; exact Nat.le_trans mL_.out hb.size : n0 ≤ n1); have mZ_ := Aside0.mk (Nat.le_of_eq hn_ : n1 ≤ w3001.heap.size); have xBK3_ := Aside0.mk (hbox); have xGE3_ := Aside0.mk (by rw [hg_]; exact below_size (by (repeat (first | (with_reducible first | exact HB.out | apply below_alloc | apply pw_below_drewN | apply below_drew1) | exact HB.out))) : w.heap.size ≤ gb3); have xHI3_ := Aside0.mk (⟨by rw [hg_]; exact mL_.out, by rw [hn_]; exact blk_lt hbox⟩ : n0 ≤ gb3 ∧ gb3 < n1); clear HB HZ; have HB := mB_; have HZ := mZ_; have HN1 := mN_; have BK3 := xBK3_; have GE3 := xGE3_; have HI3 := xHI3_; clear mB_ mN_ mZ_ mL_ xBK3_ xGE3_ xHI3_; (try clear hn_); clear hb hbox hg_) | ((with_reducible refine gate_dst (N := 5) rfl ?_); refine box_event ?hg (N := 5) ?hd (cs := #[.slice A2_0 l2_0.length c2_0]) (t := 24) ?hr ?_; (case hd => rfl); (case hg => rfl); (case hr => first | (go_simp; done) | (go_simp; rfl)); intro gb5 hg_ w3002 hbox hb; have m0_ := Aside0.mk (blk_below (g := gb3) (o := .cells #[.slice A0_0 l0_0.length c0_0] 24 (0, 0)) (by ((with_reducible repeat (first | refine blk_drewN ?_ _ | refine blk_drew ?_ | refine blk_alloc ?_ _)); exact BK3.out)) hb); have mB_ := Aside0.mk (below_step (by (repeat (first | (with_reducible first | exact HB.out | apply below_alloc | apply pw_below_drewN | apply below_drew1 | refine below_set ?_ GE3.out) | exact HB.out))) hb); have mL_ := Aside0.mk (by (repeat (first | exact HZ.out | (with_reducible first | apply sz_alloc | apply sz_drewN | apply sz_drew | apply sz_set))) : n1 ≤ _); obtain ⟨n2, hn_⟩ : ∃ n_, n_ = w3002.heap.size := ⟨_, rfl⟩; have mN_ := Aside0.mk (by rw [hn_]; exact Nat.le_trans mL_.out hb.size : n1 ≤ n2); have mZ_ := Aside0.mk (Nat.le_of_eq hn_ : n2 ≤ w3002.heap.size); have xBK5_ := Aside0.mk (hbox); have xGE5_ := Aside0.mk (by rw [hg_]; exact below_size (by (repeat (first | (with_reducible first | exact HB.out | apply below_alloc | apply pw_below_drewN | apply below_drew1 | refine below_set ?_ GE3.out) | exact HB.out))) : w.heap.size ≤ gb5); have xHI5_ := Aside0.mk (⟨by rw [hg_]; exact mL_.out, by rw [hn_]; exact blk_lt hbox⟩ : n1 ≤ gb5 ∧ gb5 < n2); clear BK3 HB HZ; have BK3 := m0_; have HB := mB_; have HZ := mZ_; have HN2 := mN_; have BK5 := xBK5_; have GE5 := xGE5_; have HI5 := xHI5_; clear m0_ mB_ mN_ mZ_ mL_ xBK5_ xGE5_ xHI5_; (try clear hn_); clear hb hbox hg_; have hc3_0 := (blk_cell BK3.out 0).trans (show (#[.slice A0_0 l0_0.length c0_0] : Array Value)[0]? = some (.slice A0_0 l0_0.length c0_0) from rfl); have hf3_0 := blk_frozen BK3.out 0) | ((with_reducible refine gate_callee (f := 12) rfl ?_); refine goesL_ (some 22) rfl rfl Try.func12 (by kernel_rfl) rfl #[.agg #[.slice A0_0 l0_0.length c0_0], .int .i64 1048576] rfl (by (try simp only [List.map_toArray, List.map_cons, List.map_nil]); first | done | rfl) ?_; (with_reducible refine (laws_szMemory.calls k _ _ l0_0 1048576 z4 _ ?sr0 ?sc0 E1.out).mono ?_); (case sr0 => exact Kd.C_below HR0_0.out (by (repeat (first | (with_reducible first | exact HB.out | apply below_alloc | apply pw_below_drewN | apply below_drew1 | refine below_set ?_ GE3.out | refine below_set ?_ GE5.out) | exact HB.out)))); (case sc0 => exact HC0_0.out); rintro e w1005 ⟨rfl, hb⟩; refine ⟨_, rfl, ?_⟩; have m0_ := Aside0.mk (blk_below (g := gb3) (o := .cells #[.slice A0_0 l0_0.length c0_0] 24 (0, 0)) (by ((with_reducible repeat (first | refine blk_drewN ?_ _ | refine blk_drew ?_ | refine blk_alloc ?_ _)); exact BK3.out)) hb); have m1_ := Aside0.mk (blk_below (g := gb5) (o := .cells #[.slice A2_0 l2_0.length c2_0] 24 (0, 0)) (by ((with_reducible repeat (first | refine blk_drewN ?_ _ | refine blk_drew ?_ | refine blk_alloc ?_ _)); exact BK5.out)) hb); have mB_ := Aside0.mk (below_step (by (repeat (first | (with_reducible first | exact HB.out | apply below_alloc | apply pw_below_drewN | apply below_drew1 | refine below_set ?_ GE3.out | refine below_set ?_ GE5.out) | exact HB.out))) hb); have mL_ := Aside0.mk (by (repeat (first | exact HZ.out | (with_reducible first | apply sz_alloc | apply sz_drewN | apply sz_drew | apply sz_set))) : n2 ≤ _); obtain ⟨n3, hn_⟩ : ∃ n_, n_ = w1005.heap.size := ⟨_, rfl⟩; have mN_ := Aside0.mk (by rw [hn_]; exact Nat.le_trans mL_.out hb.size : n2 ≤ n3); have mZ_ := Aside0.mk (Nat.le_of_eq hn_ : n3 ≤ w1005.heap.size); clear BK3 BK5 HB HZ; have BK3 := m0_; have BK5 := m1_; have HB := mB_; have HZ := mZ_; have HN3 := mN_; clear m0_ m1_ mB_ mN_ mZ_ mL_; (try clear hn_); clear hb) | ((with_reducible refine gate_callee (f := 22) rfl ?_); refine goesL_ (some 27) rfl rfl Try.func22 (by kernel_rfl) rfl #[.slice A1 l1.length c1, .int .i64 z4] rfl (by (try simp only [List.map_toArray, List.map_cons, List.map_nil]); first | done | rfl) ?_; (with_reducible refine (laws_szWindowS.calls _ _ l1 z4 z6 _ ?sr0 ?sc0 E2.out).mono ?_); (case sr0 => exact Kd.C_below HR1.out (by (repeat (first | (with_reducible first | exact HB.out | apply below_alloc | apply pw_below_drewN | apply below_drew1 | refine below_set ?_ GE3.out | refine below_set ?_ GE5.out) | exact HB.out)))); (case sc0 => exact HC1.out); rintro e w1008 ⟨rfl, hd_⟩; have hb := hd_.below; clear hd_; refine ⟨_, rfl, ?_⟩; have m0_ := Aside0.mk (blk_below (g := gb3) (o := .cells #[.slice A0_0 l0_0.length c0_0] 24 (0, 0)) (by ((with_reducible repeat (first | refine blk_drewN ?_ _ | refine blk_drew ?_ | refine blk_alloc ?_ _)); exact BK3.out)) hb); have m1_ := Aside0.mk (blk_below (g := gb5) (o := .cells #[.slice A2_0 l2_0.length c2_0] 24 (0, 0)) (by ((with_reducible repeat (first | refine blk_drewN ?_ _ | refine blk_drew ?_ | refine blk_alloc ?_ _)); exact BK5.out)) hb); have mB_ := Aside0.mk (below_step (by (repeat (first | (with_reducible first | exact HB.out | apply below_alloc | apply pw_below_drewN | apply below_drew1 | refine below_set ?_ GE3.out | refine below_set ?_ GE5.out) | exact HB.out))) hb); have mL_ := Aside0.mk (by (repeat (first | exact HZ.out | (with_reducible first | apply sz_alloc | apply sz_drewN | apply sz_drew | apply sz_set))) : n3 ≤ _); obtain ⟨n4, hn_⟩ : ∃ n_, n_ = w1008.heap.size := ⟨_, rfl⟩; have mN_ := Aside0.mk (by rw [hn_]; exact Nat.le_trans mL_.out hb.size : n3 ≤ n4); have mZ_ := Aside0.mk (Nat.le_of_eq hn_ : n4 ≤ w1008.heap.size); clear BK3 BK5 HB HZ; have BK3 := m0_; have BK5 := m1_; have HB := mB_; have HZ := mZ_; have HN4 := mN_; clear m0_ m1_ mB_ mN_ mZ_ mL_; (try clear hn_); clear hb; have hc8_0 := (blk_cell BK5.out 0).trans (show (#[.slice A2_0 l2_0.length c2_0] : Array Value)[0]? = some (.slice A2_0 l2_0.length c2_0) from rfl); have hf8_0 := blk_frozen BK5.out 0) | ((with_reducible refine gate_callee (f := 12) rfl ?_); refine goesL_ (some 32) rfl rfl Try.func12 (by kernel_rfl) rfl #[.agg #[.slice A2_0 l2_0.length c2_0], .int .i64 z6] rfl (by (try simp only [List.map_toArray, List.map_cons, List.map_nil]); first | done | rfl) ?_; (with_reducible refine (laws_szMemory.calls k _ _ l2_0 z6 z9 _ ?sr0 ?sc0 E3.out).mono ?_); (case sr0 => exact Kd.C_below HR2_0.out (by (repeat (first | (with_reducible first | exact HB.out | apply below_alloc | apply pw_below_drewN | apply below_drew1 | refine below_set ?_ GE3.out | refine below_set ?_ GE5.out) | exact HB.out)))); (case sc0 => exact HC2_0.out); rintro e w1012 ⟨rfl, hb⟩; refine ⟨_, rfl, ?_⟩; have m0_ := Aside0.mk (blk_below (g := gb3) (o := .cells #[.slice A0_0 l0_0.length c0_0] 24 (0, 0)) (by ((with_reducible repeat (first | refine blk_drewN ?_ _ | refine blk_drew ?_ | refine blk_alloc ?_ _)); exact BK3.out)) hb); have m1_ := Aside0.mk (blk_below (g := gb5) (o := .cells #[.slice A2_0 l2_0.length c2_0] 24 (0, 0)) (by ((with_reducible repeat (first | refine blk_drewN ?_ _ | refine blk_drew ?_ | refine blk_alloc ?_ _)); exact BK5.out)) hb); have mB_ := Aside0.mk (below_step (by (repeat (first | (with_reducible first | exact HB.out | apply below_alloc | apply pw_below_drewN | apply below_drew1 | refine below_set ?_ GE3.out | refine below_set ?_ GE5.out) | exact HB.out))) hb); have mL_ := Aside0.mk (by (repeat (first | exact HZ.out | (with_reducible first | apply sz_alloc | apply sz_drewN | apply sz_drew | apply sz_set))) : n4 ≤ _); obtain ⟨n5, hn_⟩ : ∃ n_, n_ = w1012.heap.size := ⟨_, rfl⟩; have mN_ := Aside0.mk (by rw [hn_]; exact Nat.le_trans mL_.out hb.size : n4 ≤ n5); have mZ_ := Aside0.mk (Nat.le_of_eq hn_ : n5 ≤ w1012.heap.size); clear BK3 BK5 HB HZ; have BK3 := m0_; have BK5 := m1_; have HB := mB_; have HZ := mZ_; have HN5 := mN_; clear m0_ m1_ mB_ mN_ mZ_ mL_; (try clear hn_); clear hb))
  try go_wp2
  have m0_ := Aside0.mk (show (World.drew w1012).heap[gb3]? = some (Obj.cells #[.slice A0_0 l0_0.length c0_0] 24 (0, 0)) from blk_drew (by ((with_reducible repeat (first | refine blk_drewN ?_ _ | refine blk_drew ?_ | refine blk_alloc ?_ _)); exact BK3.out)))
  have m1_ := Aside0.mk (show (World.drew w1012).heap[gb5]? = some (Obj.cells #[.slice A2_0 l2_0.length c2_0] 24 (0, 0)) from blk_drew (by ((with_reducible repeat (first | refine blk_drewN ?_ _ | refine blk_drew ?_ | refine blk_alloc ?_ _)); exact BK5.out)))
  have m2_ := Aside0.mk (show Below w.heap.size w w1012.drew from below_drew1 (by (repeat (first | (with_reducible first | exact HB.out | apply below_alloc | apply pw_below_drewN | apply below_drew1 | refine below_set ?_ GE3.out | refine below_set ?_ GE5.out) | exact HB.out))))
  have m3_ := Aside0.mk (show n5 ≤ w1012.drew.heap.size from sz_drew (by (repeat (first | exact HZ.out | (with_reducible first | apply sz_alloc | apply sz_drewN | apply sz_drew | apply sz_set)))))
  clear BK3 BK5 HB HZ
  have BK3 := m0_
  have BK5 := m1_
  have HB := m2_
  have HZ := m3_
  clear m0_ m1_ m2_ m3_
  refine start_ (n := 12) (S := fun w' => w'.cell? ⟨gb3, 0, none⟩ = some (.slice A0_0 l0_0.length c0_0) ∧ w'.cell? ⟨gb5, 0, none⟩ = some (.slice A2_0 l2_0.length c2_0)) (ds := []) #[false, false, false, false, false, false, false, false, false, false, false, false] (by kernel_rfl) rfl rfl ⟨(blk_cell BK3.out 0).trans rfl, (blk_cell BK5.out 0).trans rfl⟩ (fun hHeld => ?_)
  generalize w1012.drew = w2011 at BK3 BK5 HB HZ hHeld ⊢
  refine take_ (i := 0) (N := some 36) (v := ?_) (a' := ?_) #[true, false, false, false, false, false, false, false, false, false, false, false] rfl rfl (by kernel_rfl) (fun _ _ _ h => h) (Or.inl ⟨by rfl, ?_⟩) hHeld ?_ ?_
  rotate_left
  · rintro w' ⟨s0_, s1_⟩
    go_simp
    with_reducible rfl
  rotate_left
  · simp only [Act.put, List.setIfInBounds_toArray, List.set_cons_zero, List.set_cons_succ, i64_w, i32_w]
    rfl
  refine take_ (i := 4) (N := some 40) (v := ?_) (a' := ?_) #[true, false, false, false, true, false, false, false, false, false, false, false] rfl rfl (by kernel_rfl) (fun _ _ _ h => h) (Or.inl ⟨by rfl, ?_⟩) hHeld ?_ ?_
  rotate_left
  · rintro w' ⟨s0_, s1_⟩
    go_simp
    with_reducible rfl
  rotate_left
  · simp only [Act.put, List.setIfInBounds_toArray, List.set_cons_zero, List.set_cons_succ, i64_w, i32_w]
    rfl
  refine pure_ (i := 2) (N := some 38) (v := ?_) (a' := ?_) #[true, false, true, false, true, false, false, false, false, false, false, false] rfl rfl (by kernel_rfl) (fun _ _ _ h => h) (Or.inl ⟨by rfl, ?_⟩) ?_ ?_
  rotate_left
  · intro w'
    go_simp
    with_reducible rfl
  rotate_left
  · simp only [Act.put, List.setIfInBounds_toArray, List.set_cons_zero, List.set_cons_succ, i64_w, i32_w]
    rfl
  refine one_ (i := 1) (N := some 37) #[true, true, true, false, true, false, false, false, false, false, false, false] rfl rfl (by kernel_rfl) (by decide) (fun K hK => ?_)
  refine goes_ Try.func14 (by kernel_rfl) rfl #[.agg #[.slice A0_0 l0_0.length c0_0]] (by rfl) rfl rfl (by (try simp only [List.map_toArray, List.map_cons, List.map_nil]); first | done | rfl | (simp only [List.length_drop, List.length_take]; rfl)) ?_
  (with_reducible refine (laws_toMemory.calls k _ _ l0_0 t13 _ ?sr0 ?sc0 E4.out).mono ?_)
  (case sr0 => exact Kd.C_below HR0_0.out (by (repeat (first | (with_reducible first | exact HB.out | apply below_alloc | apply pw_below_drewN | apply below_drew1 | refine below_set ?_ GE3.out | refine below_set ?_ GE5.out) | exact HB.out))))
  (case sc0 => exact HC0_0.out)
  rintro e w1017 ⟨v4_0, rfl, ho0_, hb⟩
  refine ⟨_, rfl, ?_⟩
  have m0_ := Aside0.mk (blk_below (g := gb3) (o := .cells #[.slice A0_0 l0_0.length c0_0] 24 (0, 0)) (by ((with_reducible repeat (first | refine blk_drewN ?_ _ | refine blk_drew ?_ | refine blk_alloc ?_ _)); exact BK3.out)) hb)
  have m1_ := Aside0.mk (blk_below (g := gb5) (o := .cells #[.slice A2_0 l2_0.length c2_0] 24 (0, 0)) (by ((with_reducible repeat (first | refine blk_drewN ?_ _ | refine blk_drew ?_ | refine blk_alloc ?_ _)); exact BK5.out)) hb)
  have mB_ := Aside0.mk (below_step (by (repeat (first | (with_reducible first | exact HB.out | apply below_alloc | apply pw_below_drewN | apply below_drew1 | refine below_set ?_ GE3.out | refine below_set ?_ GE5.out) | exact HB.out))) hb)
  have mL_ := Aside0.mk (by (repeat (first | exact HZ.out | (with_reducible first | apply sz_alloc | apply sz_drewN | apply sz_drew | apply sz_set))) : n5 ≤ _)
  obtain ⟨n6, hn_⟩ : ∃ n_, n_ = w1017.heap.size := ⟨_, rfl⟩
  have mN_ := Aside0.mk (by rw [hn_]; exact Nat.le_trans mL_.out hb.size : n5 ≤ n6)
  have mZ_ := Aside0.mk (Nat.le_of_eq hn_ : n6 ≤ w1017.heap.size)
  have xHO15_ := Aside0.mk (show Kd.S (Kd.slice 5 (Kd.int .u8)) 28 w1017 w.heap.size (fun k_ => n5 ≤ k_ ∧ k_ < n6) _ t13 from Kd.S_mono (Kd.S_lower (Kd.S_bound ho0_) (below_size (by (repeat (first | (with_reducible first | exact HB.out | apply below_alloc | apply pw_below_drewN | apply below_drew1 | refine below_set ?_ GE3.out | refine below_set ?_ GE5.out) | exact HB.out))))) (fun k_ hk_ => ⟨Nat.le_trans mL_.out hk_.2.1, by rw [hn_]; exact hk_.2.2.1⟩))
  clear BK3 BK5 HB HZ
  have BK3 := m0_
  have BK5 := m1_
  have HB := mB_
  have HZ := mZ_
  have HN6 := mN_
  have HO15 := xHO15_
  clear m0_ m1_ mB_ mN_ mZ_ mL_ xHO15_
  (try clear hn_)
  clear hb ho0_
  obtain ⟨Ao15, co15, eo_⟩ := Kd.S_slice HO15.out; subst eo_
  refine hK.out _ _ ⟨(blk_cell BK3.out 0).trans rfl, (blk_cell BK5.out 0).trans rfl⟩ (fun hHeld => ?_)
  clear hK K
  refine norm_ (a' := ?_) ?_ ?_
  rotate_left
  · show Act.put _ (some 37) _ = _
    simp only [Act.put, List.setIfInBounds_toArray, List.set_cons_zero, List.set_cons_succ, i64_w, i32_w]
    rfl
  refine one_ (i := 3) (N := some 39) #[true, true, true, true, true, false, false, false, false, false, false, false] rfl rfl (by kernel_rfl) (by decide) (fun K hK => ?_)
  refine goes_ Try.func24 (by kernel_rfl) rfl #[.slice A1 l1.length c1] (by rfl) rfl rfl (by (try simp only [List.map_toArray, List.map_cons, List.map_nil]); first | done | rfl | (simp only [List.length_drop, List.length_take]; rfl)) ?_
  (with_reducible refine (laws_toWindowS.calls k _ _ l1 t17 _ ?sr0 ?sc0 E5.out).mono ?_)
  (case sr0 => exact Kd.C_below HR1.out (by (repeat (first | (with_reducible first | exact HB.out | apply below_alloc | apply pw_below_drewN | apply below_drew1 | refine below_set ?_ GE3.out | refine below_set ?_ GE5.out) | exact HB.out))))
  (case sc0 => exact HC1.out)
  rintro e w1022 ⟨v5_0, rfl, ho0_, hb⟩
  refine ⟨_, rfl, ?_⟩
  have m0_ := Aside0.mk (blk_below (g := gb3) (o := .cells #[.slice A0_0 l0_0.length c0_0] 24 (0, 0)) (by ((with_reducible repeat (first | refine blk_drewN ?_ _ | refine blk_drew ?_ | refine blk_alloc ?_ _)); exact BK3.out)) hb)
  have m1_ := Aside0.mk (blk_below (g := gb5) (o := .cells #[.slice A2_0 l2_0.length c2_0] 24 (0, 0)) (by ((with_reducible repeat (first | refine blk_drewN ?_ _ | refine blk_drew ?_ | refine blk_alloc ?_ _)); exact BK5.out)) hb)
  have m2_ := Aside0.mk (Kd.S_below (by ((with_reducible repeat (first | apply Kd.S_alloc | apply Kd.S_drewN | apply Kd.S_drew)); exact HO15.out)) hb)
  have mB_ := Aside0.mk (below_step (by (repeat (first | (with_reducible first | exact HB.out | apply below_alloc | apply pw_below_drewN | apply below_drew1 | refine below_set ?_ GE3.out | refine below_set ?_ GE5.out) | exact HB.out))) hb)
  have mL_ := Aside0.mk (by (repeat (first | exact HZ.out | (with_reducible first | apply sz_alloc | apply sz_drewN | apply sz_drew | apply sz_set))) : n6 ≤ _)
  obtain ⟨n7, hn_⟩ : ∃ n_, n_ = w1022.heap.size := ⟨_, rfl⟩
  have mN_ := Aside0.mk (by rw [hn_]; exact Nat.le_trans mL_.out hb.size : n6 ≤ n7)
  have mZ_ := Aside0.mk (Nat.le_of_eq hn_ : n7 ≤ w1022.heap.size)
  have xHO19_ := Aside0.mk (show Kd.R k33 33 w1022 w.heap.size (fun k_ => n6 ≤ k_ ∧ k_ < n7) _ t17 from Kd.R_mono (Kd.R_lower (Kd.R_bound ho0_) (below_size (by (repeat (first | (with_reducible first | exact HB.out | apply below_alloc | apply pw_below_drewN | apply below_drew1 | refine below_set ?_ GE3.out | refine below_set ?_ GE5.out) | exact HB.out))))) (fun k_ hk_ => ⟨Nat.le_trans mL_.out hk_.2.1, by rw [hn_]; exact hk_.2.2.1⟩))
  clear BK3 BK5 HO15 HB HZ
  have BK3 := m0_
  have BK5 := m1_
  have HO15 := m2_
  have HB := mB_
  have HZ := mZ_
  have HN7 := mN_
  have HO19 := xHO19_
  clear m0_ m1_ m2_ mB_ mN_ mZ_ mL_ xHO19_
  (try clear hn_)
  clear hb ho0_
  obtain ⟨Ao19, co19, eo_⟩ := Kd.R_slice HO19.out; subst eo_
  refine hK.out _ _ ⟨(blk_cell BK3.out 0).trans rfl, (blk_cell BK5.out 0).trans rfl⟩ (fun hHeld => ?_)
  clear hK K
  refine norm_ (a' := ?_) ?_ ?_
  rotate_left
  · show Act.put _ (some 39) _ = _
    simp only [Act.put, List.setIfInBounds_toArray, List.set_cons_zero, List.set_cons_succ, i64_w, i32_w]
    rfl
  refine one_ (i := 5) (N := some 41) #[true, true, true, true, true, true, false, false, false, false, false, false] rfl rfl (by kernel_rfl) (by decide) (fun K hK => ?_)
  refine goes_ Try.func14 (by kernel_rfl) rfl #[.agg #[.slice A2_0 l2_0.length c2_0]] (by rfl) rfl rfl (by (try simp only [List.map_toArray, List.map_cons, List.map_nil]); first | done | rfl | (simp only [List.length_drop, List.length_take]; rfl)) ?_
  (with_reducible refine (laws_toMemory.calls k _ _ l2_0 t21 _ ?sr0 ?sc0 E6.out).mono ?_)
  (case sr0 => exact Kd.C_below HR2_0.out (by (repeat (first | (with_reducible first | exact HB.out | apply below_alloc | apply pw_below_drewN | apply below_drew1 | refine below_set ?_ GE3.out | refine below_set ?_ GE5.out) | exact HB.out))))
  (case sc0 => exact HC2_0.out)
  rintro e w1027 ⟨v6_0, rfl, ho0_, hb⟩
  refine ⟨_, rfl, ?_⟩
  have m0_ := Aside0.mk (blk_below (g := gb3) (o := .cells #[.slice A0_0 l0_0.length c0_0] 24 (0, 0)) (by ((with_reducible repeat (first | refine blk_drewN ?_ _ | refine blk_drew ?_ | refine blk_alloc ?_ _)); exact BK3.out)) hb)
  have m1_ := Aside0.mk (blk_below (g := gb5) (o := .cells #[.slice A2_0 l2_0.length c2_0] 24 (0, 0)) (by ((with_reducible repeat (first | refine blk_drewN ?_ _ | refine blk_drew ?_ | refine blk_alloc ?_ _)); exact BK5.out)) hb)
  have m2_ := Aside0.mk (Kd.S_below (by ((with_reducible repeat (first | apply Kd.S_alloc | apply Kd.S_drewN | apply Kd.S_drew)); exact HO15.out)) hb)
  have m3_ := Aside0.mk (Kd.R_below (by ((with_reducible repeat (first | apply Kd.R_alloc | apply Kd.R_drewN | apply Kd.R_drew)); exact HO19.out)) hb)
  have mB_ := Aside0.mk (below_step (by (repeat (first | (with_reducible first | exact HB.out | apply below_alloc | apply pw_below_drewN | apply below_drew1 | refine below_set ?_ GE3.out | refine below_set ?_ GE5.out) | exact HB.out))) hb)
  have mL_ := Aside0.mk (by (repeat (first | exact HZ.out | (with_reducible first | apply sz_alloc | apply sz_drewN | apply sz_drew | apply sz_set))) : n7 ≤ _)
  obtain ⟨n8, hn_⟩ : ∃ n_, n_ = w1027.heap.size := ⟨_, rfl⟩
  have mN_ := Aside0.mk (by rw [hn_]; exact Nat.le_trans mL_.out hb.size : n7 ≤ n8)
  have mZ_ := Aside0.mk (Nat.le_of_eq hn_ : n8 ≤ w1027.heap.size)
  have xHO23_ := Aside0.mk (show Kd.S (Kd.slice 5 (Kd.int .u8)) 28 w1027 w.heap.size (fun k_ => n7 ≤ k_ ∧ k_ < n8) _ t21 from Kd.S_mono (Kd.S_lower (Kd.S_bound ho0_) (below_size (by (repeat (first | (with_reducible first | exact HB.out | apply below_alloc | apply pw_below_drewN | apply below_drew1 | refine below_set ?_ GE3.out | refine below_set ?_ GE5.out) | exact HB.out))))) (fun k_ hk_ => ⟨Nat.le_trans mL_.out hk_.2.1, by rw [hn_]; exact hk_.2.2.1⟩))
  clear BK3 BK5 HO15 HO19 HB HZ
  have BK3 := m0_
  have BK5 := m1_
  have HO15 := m2_
  have HO19 := m3_
  have HB := mB_
  have HZ := mZ_
  have HN8 := mN_
  have HO23 := xHO23_
  clear m0_ m1_ m2_ m3_ mB_ mN_ mZ_ mL_ xHO23_
  (try clear hn_)
  clear hb ho0_
  obtain ⟨Ao23, co23, eo_⟩ := Kd.S_slice HO23.out; subst eo_
  refine hK.out _ _ ⟨(blk_cell BK3.out 0).trans rfl, (blk_cell BK5.out 0).trans rfl⟩ (fun hHeld => ?_)
  clear hK K
  refine norm_ (a' := ?_) ?_ ?_
  rotate_left
  · show Act.put _ (some 41) _ = _
    simp only [Act.put, List.setIfInBounds_toArray, List.set_cons_zero, List.set_cons_succ, i64_w, i32_w]
    rfl
  refine one_ (i := 6) (N := some 42) #[true, true, true, true, true, true, true, false, false, false, false, false] rfl rfl (by kernel_rfl) (by decide) (fun K hK => ?_)
  refine goes_ Try.func40 (by kernel_rfl) rfl #[.agg #[.slice Ao15 t13.length co15], .slice Ao19 t17.length co19, .agg #[.slice Ao23 t21.length co23]] (by rfl) rfl rfl (by (try simp only [List.map_toArray, List.map_cons, List.map_nil]); first | done | rfl | (simp only [List.length_drop, List.length_take]; rfl)) ?_
  (with_reducible refine (spec_ChangedSince.calls k _ _ t13 _ _ t17 _ _ t21 s26 ok25 _ ?sr0 ?sc0 ?sr1 ?sc1 ?sr2 ?sc2 E7.out).mono ?_)
  (case sr0 => repeat (first | exact (Kd.S_reads' HO15.out).2.2 | (with_reducible refine Kd.C_alloc ?_ _) | (with_reducible refine Kd.C_drewN ?_ _) | (with_reducible refine Kd.C_drew ?_)))
  (case sc0 => first | exact (Kd.S_reads' HO15.out).2.1 | exact Nat.le_trans (Nat.le_of_eq (Kd.S_reads' HO15.out).1.symm) (Kd.S_reads' HO15.out).2.1)
  (case sr1 => repeat (first | exact (Kd.R_reads' HO19.out).2.2 | (with_reducible refine Kd.C_alloc ?_ _) | (with_reducible refine Kd.C_drewN ?_ _) | (with_reducible refine Kd.C_drew ?_)))
  (case sc1 => first | exact (Kd.R_reads' HO19.out).2.1 | exact Nat.le_trans (Nat.le_of_eq (Kd.R_reads' HO19.out).1.symm) (Kd.R_reads' HO19.out).2.1)
  (case sr2 => repeat (first | exact (Kd.S_reads' HO23.out).2.2 | (with_reducible refine Kd.C_alloc ?_ _) | (with_reducible refine Kd.C_drewN ?_ _) | (with_reducible refine Kd.C_drew ?_)))
  (case sc2 => first | exact (Kd.S_reads' HO23.out).2.1 | exact Nat.le_trans (Nat.le_of_eq (Kd.S_reads' HO23.out).1.symm) (Kd.S_reads' HO23.out).2.1)
  rintro e w1033 ⟨v7_0, rfl, ho0_, hb⟩
  refine ⟨_, rfl, ?_⟩
  have m0_ := Aside0.mk (blk_below (g := gb3) (o := .cells #[.slice A0_0 l0_0.length c0_0] 24 (0, 0)) (by ((with_reducible repeat (first | refine blk_drewN ?_ _ | refine blk_drew ?_ | refine blk_alloc ?_ _)); exact BK3.out)) hb)
  have m1_ := Aside0.mk (blk_below (g := gb5) (o := .cells #[.slice A2_0 l2_0.length c2_0] 24 (0, 0)) (by ((with_reducible repeat (first | refine blk_drewN ?_ _ | refine blk_drew ?_ | refine blk_alloc ?_ _)); exact BK5.out)) hb)
  have m2_ := Aside0.mk (Kd.S_below (by ((with_reducible repeat (first | apply Kd.S_alloc | apply Kd.S_drewN | apply Kd.S_drew)); exact HO15.out)) hb)
  have m3_ := Aside0.mk (Kd.R_below (by ((with_reducible repeat (first | apply Kd.R_alloc | apply Kd.R_drewN | apply Kd.R_drew)); exact HO19.out)) hb)
  have m4_ := Aside0.mk (Kd.S_below (by ((with_reducible repeat (first | apply Kd.S_alloc | apply Kd.S_drewN | apply Kd.S_drew)); exact HO23.out)) hb)
  have mB_ := Aside0.mk (below_step (by (repeat (first | (with_reducible first | exact HB.out | apply below_alloc | apply pw_below_drewN | apply below_drew1 | refine below_set ?_ GE3.out | refine below_set ?_ GE5.out) | exact HB.out))) hb)
  have mL_ := Aside0.mk (by (repeat (first | exact HZ.out | (with_reducible first | apply sz_alloc | apply sz_drewN | apply sz_drew | apply sz_set))) : n8 ≤ _)
  obtain ⟨n9, hn_⟩ : ∃ n_, n_ = w1033.heap.size := ⟨_, rfl⟩
  have mN_ := Aside0.mk (by rw [hn_]; exact Nat.le_trans mL_.out hb.size : n8 ≤ n9)
  have mZ_ := Aside0.mk (Nat.le_of_eq hn_ : n9 ≤ w1033.heap.size)
  have xHO28_ := Aside0.mk (show Kd.R (Kd.int .i64) 3 w1033 w.heap.size (fun k_ => n8 ≤ k_ ∧ k_ < n9) _ s26 from Kd.R_mono (Kd.R_lower (Kd.R_bound ho0_) (below_size (by (repeat (first | (with_reducible first | exact HB.out | apply below_alloc | apply pw_below_drewN | apply below_drew1 | refine below_set ?_ GE3.out | refine below_set ?_ GE5.out) | exact HB.out))))) (fun k_ hk_ => ⟨Nat.le_trans mL_.out hk_.2.1, by rw [hn_]; exact hk_.2.2.1⟩))
  clear BK3 BK5 HO15 HO19 HO23 HB HZ
  have BK3 := m0_
  have BK5 := m1_
  have HO15 := m2_
  have HO19 := m3_
  have HO23 := m4_
  have HB := mB_
  have HZ := mZ_
  have HN9 := mN_
  have HO28 := xHO28_
  clear m0_ m1_ m2_ m3_ m4_ mB_ mN_ mZ_ mL_ xHO28_
  (try clear hn_)
  clear hb ho0_
  obtain ⟨Ao28, co28, eo_⟩ := Kd.R_slice HO28.out; subst eo_
  refine hK.out _ _ ⟨(blk_cell BK3.out 0).trans rfl, (blk_cell BK5.out 0).trans rfl⟩ (fun hHeld => ?_)
  clear hK K
  refine norm_ (a' := ?_) ?_ ?_
  rotate_left
  · show Act.put _ (some 42) _ = _
    simp only [Act.put, List.setIfInBounds_toArray, List.set_cons_zero, List.set_cons_succ, i64_w, i32_w]
    rfl
  refine pure_ (i := 7) (N := some 35) (v := ?_) (a' := ?_) #[true, true, true, true, true, true, true, true, false, false, false, false] rfl rfl (by kernel_rfl) (fun _ _ _ h => h) (Or.inl ⟨by rfl, ?_⟩) ?_ ?_
  rotate_left
  · intro w'
    go_simp
    with_reducible rfl
  rotate_left
  · simp only [Act.put, List.setIfInBounds_toArray, List.set_cons_zero, List.set_cons_succ, i64_w, i32_w]
    rfl
  refine pure_ (i := 8) (N := some 43) (v := ?_) (a' := ?_) #[true, true, true, true, true, true, true, true, true, false, false, false] rfl rfl (by kernel_rfl) (fun _ _ _ h => h) (Or.inl ⟨by rfl, ?_⟩) ?_ ?_
  rotate_left
  · intro w'
    go_simp
    with_reducible rfl
  rotate_left
  · simp only [Act.put, List.setIfInBounds_toArray, List.set_cons_zero, List.set_cons_succ, i64_w, i32_w]
    rfl
  refine pure_ (i := 9) (N := some 44) (v := ?_) (a' := ?_) #[true, true, true, true, true, true, true, true, true, true, false, false] rfl rfl (by kernel_rfl) (fun _ _ _ h => h) (Or.inl ⟨by rfl, ?_⟩) ?_ ?_
  rotate_left
  · intro w'
    go_simp
    with_reducible rfl
  rotate_left
  · simp only [Act.put, List.setIfInBounds_toArray, List.set_cons_zero, List.set_cons_succ, i64_w, i32_w]
    rfl
  refine pure_ (i := 10) (N := some 8) (v := ?_) (a' := ?_) #[true, true, true, true, true, true, true, true, true, true, true, false] rfl rfl (by kernel_rfl) (fun _ _ _ h => h) (Or.inl ⟨by rfl, ?_⟩) ?_ ?_
  rotate_left
  · intro w'
    go_simp
    with_reducible rfl
  rotate_left
  · simp only [Act.put, List.setIfInBounds_toArray, List.set_cons_zero, List.set_cons_succ, i64_w, i32_w]
    rfl
  refine pure_ (i := 11) (N := some 9) (v := ?_) (a' := ?_) #[true, true, true, true, true, true, true, true, true, true, true, true] rfl rfl (by kernel_rfl) (fun _ _ _ h => h) (Or.inl ⟨by rfl, ?_⟩) ?_ ?_
  rotate_left
  · intro w'
    go_simp
    with_reducible rfl
  rotate_left
  · simp only [Act.put, List.setIfInBounds_toArray, List.set_cons_zero, List.set_cons_succ, i64_w, i32_w]
    rfl
  refine done_ (by kernel_rfl) ?_
  have hc29_0 := (blk_cell BK3.out 0).trans (show (#[.slice A0_0 l0_0.length c0_0] : Array Value)[0]? = some (.slice A0_0 l0_0.length c0_0) from rfl)
  have hf29_0 := blk_frozen BK3.out 0
  go_upto_region 18 with (first | ((with_reducible refine gate_callee (f := 14) rfl ?_); refine goesL_ (some 46) rfl rfl Try.func14 (by kernel_rfl) rfl #[.agg #[.slice A0_0 l0_0.length c0_0]] rfl (by (try simp only [List.map_toArray, List.map_cons, List.map_nil]); first | done | rfl) ?_; (with_reducible refine (laws_toMemory.calls k _ _ l0_0 t13 _ ?sr0 ?sc0 E4.out).mono ?_); (case sr0 => exact Kd.C_below HR0_0.out (by (repeat (first | (with_reducible first | exact HB.out | apply below_alloc | apply pw_below_drewN | apply below_drew1 | refine below_set ?_ GE3.out | refine below_set ?_ GE5.out) | exact HB.out)))); (case sc0 => exact HC0_0.out); rintro e w1038 ⟨v8_0, rfl, ho0_, hb⟩; refine ⟨_, rfl, ?_⟩; have m0_ := Aside0.mk (blk_below (g := gb3) (o := .cells #[.slice A0_0 l0_0.length c0_0] 24 (0, 0)) (by ((with_reducible repeat (first | refine blk_drewN ?_ _ | refine blk_drew ?_ | refine blk_alloc ?_ _)); exact BK3.out)) hb); have m1_ := Aside0.mk (blk_below (g := gb5) (o := .cells #[.slice A2_0 l2_0.length c2_0] 24 (0, 0)) (by ((with_reducible repeat (first | refine blk_drewN ?_ _ | refine blk_drew ?_ | refine blk_alloc ?_ _)); exact BK5.out)) hb); have m2_ := Aside0.mk (Kd.S_below (by ((with_reducible repeat (first | apply Kd.S_alloc | apply Kd.S_drewN | apply Kd.S_drew)); exact HO15.out)) hb); have m3_ := Aside0.mk (Kd.R_below (by ((with_reducible repeat (first | apply Kd.R_alloc | apply Kd.R_drewN | apply Kd.R_drew)); exact HO19.out)) hb); have m4_ := Aside0.mk (Kd.S_below (by ((with_reducible repeat (first | apply Kd.S_alloc | apply Kd.S_drewN | apply Kd.S_drew)); exact HO23.out)) hb); have m5_ := Aside0.mk (Kd.R_below (by ((with_reducible repeat (first | apply Kd.R_alloc | apply Kd.R_drewN | apply Kd.R_drew)); exact HO28.out)) hb); have mB_ := Aside0.mk (below_step (by (repeat (first | (with_reducible first | exact HB.out | apply below_alloc | apply pw_below_drewN | apply below_drew1 | refine below_set ?_ GE3.out | refine below_set ?_ GE5.out) | exact HB.out))) hb); have mL_ := Aside0.mk (by (repeat (first | exact HZ.out | (with_reducible first | apply sz_alloc | apply sz_drewN | apply sz_drew | apply sz_set))) : n9 ≤ _); obtain ⟨n10, hn_⟩ : ∃ n_, n_ = w1038.heap.size := ⟨_, rfl⟩; have mN_ := Aside0.mk (by rw [hn_]; exact Nat.le_trans mL_.out hb.size : n9 ≤ n10); have mZ_ := Aside0.mk (Nat.le_of_eq hn_ : n10 ≤ w1038.heap.size); have xHO32_ := Aside0.mk (show Kd.S (Kd.slice 5 (Kd.int .u8)) 28 w1038 w.heap.size (fun k_ => n9 ≤ k_ ∧ k_ < n10) _ t13 from Kd.S_mono (Kd.S_lower (Kd.S_bound ho0_) (below_size (by (repeat (first | (with_reducible first | exact HB.out | apply below_alloc | apply pw_below_drewN | apply below_drew1 | refine below_set ?_ GE3.out | refine below_set ?_ GE5.out) | exact HB.out))))) (fun k_ hk_ => ⟨Nat.le_trans mL_.out hk_.2.1, by rw [hn_]; exact hk_.2.2.1⟩)); clear BK3 BK5 HO15 HO19 HO23 HO28 HB HZ; have BK3 := m0_; have BK5 := m1_; have HO15 := m2_; have HO19 := m3_; have HO23 := m4_; have HO28 := m5_; have HB := mB_; have HZ := mZ_; have HN10 := mN_; have HO32 := xHO32_; clear m0_ m1_ m2_ m3_ m4_ m5_ mB_ mN_ mZ_ mL_ xHO32_; (try clear hn_); clear hb ho0_; obtain ⟨Ao32, co32, eo_⟩ := Kd.S_slice HO32.out; subst eo_) | ((with_reducible refine gate_dst (N := 10) rfl ?_); refine box_event ?hg (N := 10) ?hd (cs := #[.slice none 0 0]) (t := 31) ?hr ?_; (case hd => rfl); (case hg => rfl); (case hr => first | (go_simp; done) | (go_simp; rfl)); intro gb10 hg_ w3033 hbox hb; have m0_ := Aside0.mk (blk_below (g := gb3) (o := .cells #[.slice A0_0 l0_0.length c0_0] 24 (0, 0)) (by ((with_reducible repeat (first | refine blk_drewN ?_ _ | refine blk_drew ?_ | refine blk_alloc ?_ _)); exact BK3.out)) hb); have m1_ := Aside0.mk (blk_below (g := gb5) (o := .cells #[.slice A2_0 l2_0.length c2_0] 24 (0, 0)) (by ((with_reducible repeat (first | refine blk_drewN ?_ _ | refine blk_drew ?_ | refine blk_alloc ?_ _)); exact BK5.out)) hb); have m2_ := Aside0.mk (Kd.S_below (by ((with_reducible repeat (first | apply Kd.S_alloc | apply Kd.S_drewN | apply Kd.S_drew)); exact HO15.out)) hb); have m3_ := Aside0.mk (Kd.R_below (by ((with_reducible repeat (first | apply Kd.R_alloc | apply Kd.R_drewN | apply Kd.R_drew)); exact HO19.out)) hb); have m4_ := Aside0.mk (Kd.S_below (by ((with_reducible repeat (first | apply Kd.S_alloc | apply Kd.S_drewN | apply Kd.S_drew)); exact HO23.out)) hb); have m5_ := Aside0.mk (Kd.R_below (by ((with_reducible repeat (first | apply Kd.R_alloc | apply Kd.R_drewN | apply Kd.R_drew)); exact HO28.out)) hb); have m6_ := Aside0.mk (Kd.S_below (by ((with_reducible repeat (first | apply Kd.S_alloc | apply Kd.S_drewN | apply Kd.S_drew)); exact HO32.out)) hb); have mB_ := Aside0.mk (below_step (by (repeat (first | (with_reducible first | exact HB.out | apply below_alloc | apply pw_below_drewN | apply below_drew1 | refine below_set ?_ GE3.out | refine below_set ?_ GE5.out) | exact HB.out))) hb); have mL_ := Aside0.mk (by (repeat (first | exact HZ.out | (with_reducible first | apply sz_alloc | apply sz_drewN | apply sz_drew | apply sz_set))) : n10 ≤ _); obtain ⟨n11, hn_⟩ : ∃ n_, n_ = w3033.heap.size := ⟨_, rfl⟩; have mN_ := Aside0.mk (by rw [hn_]; exact Nat.le_trans mL_.out hb.size : n10 ≤ n11); have mZ_ := Aside0.mk (Nat.le_of_eq hn_ : n11 ≤ w3033.heap.size); have xBK10_ := Aside0.mk (hbox); have xGE10_ := Aside0.mk (by rw [hg_]; exact below_size (by (repeat (first | (with_reducible first | exact HB.out | apply below_alloc | apply pw_below_drewN | apply below_drew1 | refine below_set ?_ GE3.out | refine below_set ?_ GE5.out) | exact HB.out))) : w.heap.size ≤ gb10); have xHI10_ := Aside0.mk (⟨by rw [hg_]; exact mL_.out, by rw [hn_]; exact blk_lt hbox⟩ : n10 ≤ gb10 ∧ gb10 < n11); clear BK3 BK5 HO15 HO19 HO23 HO28 HO32 HB HZ; have BK3 := m0_; have BK5 := m1_; have HO15 := m2_; have HO19 := m3_; have HO23 := m4_; have HO28 := m5_; have HO32 := m6_; have HB := mB_; have HZ := mZ_; have HN11 := mN_; have BK10 := xBK10_; have GE10 := xGE10_; have HI10 := xHI10_; clear m0_ m1_ m2_ m3_ m4_ m5_ m6_ mB_ mN_ mZ_ mL_ xBK10_ xGE10_ xHI10_; (try clear hn_); clear hb hbox hg_; have hc34_0 := (blk_cell BK10.out 0).trans (show (#[.slice none 0 0] : Array Value)[0]? = some (.slice none 0 0) from rfl); have hf34_0 := blk_frozen BK10.out 0) | ((with_reducible refine gate_callee (f := 24) rfl ?_); refine goesL_ (some 48) rfl rfl Try.func24 (by kernel_rfl) rfl #[.slice A1 l1.length c1] rfl (by (try simp only [List.map_toArray, List.map_cons, List.map_nil]); first | done | rfl) ?_; (with_reducible refine (laws_toWindowS.calls k _ _ l1 t17 _ ?sr0 ?sc0 E5.out).mono ?_); (case sr0 => exact Kd.C_below HR1.out (by (repeat (first | (with_reducible first | exact HB.out | apply below_alloc | apply pw_below_drewN | apply below_drew1 | refine below_set ?_ GE3.out | refine below_set ?_ GE5.out | refine below_set ?_ GE10.out) | exact HB.out)))); (case sc0 => exact HC1.out); rintro e w1044 ⟨v9_0, rfl, ho0_, hb⟩; refine ⟨_, rfl, ?_⟩; have m0_ := Aside0.mk (blk_below (g := gb3) (o := .cells #[.slice A0_0 l0_0.length c0_0] 24 (0, 0)) (by ((with_reducible repeat (first | refine blk_drewN ?_ _ | refine blk_drew ?_ | refine blk_alloc ?_ _)); refine blk_far ?_ (by show gb3 ≠ gb10; have h1_ := HI3.out; have h2_ := HI10.out; have q1_ := HN1.out; have q2_ := HN2.out; have q3_ := HN3.out; have q4_ := HN4.out; have q5_ := HN5.out; have q6_ := HN6.out; have q7_ := HN7.out; have q8_ := HN8.out; have q9_ := HN9.out; have q10_ := HN10.out; have q11_ := HN11.out; omega) _; (with_reducible repeat (first | refine blk_drewN ?_ _ | refine blk_drew ?_ | refine blk_alloc ?_ _)); exact BK3.out)) hb); have m1_ := Aside0.mk (blk_below (g := gb5) (o := .cells #[.slice A2_0 l2_0.length c2_0] 24 (0, 0)) (by ((with_reducible repeat (first | refine blk_drewN ?_ _ | refine blk_drew ?_ | refine blk_alloc ?_ _)); refine blk_far ?_ (by show gb5 ≠ gb10; have h1_ := HI5.out; have h2_ := HI10.out; have q1_ := HN1.out; have q2_ := HN2.out; have q3_ := HN3.out; have q4_ := HN4.out; have q5_ := HN5.out; have q6_ := HN6.out; have q7_ := HN7.out; have q8_ := HN8.out; have q9_ := HN9.out; have q10_ := HN10.out; have q11_ := HN11.out; omega) _; (with_reducible repeat (first | refine blk_drewN ?_ _ | refine blk_drew ?_ | refine blk_alloc ?_ _)); exact BK5.out)) hb); have m2_ := Aside0.mk (blk_below (g := gb10) (o := .cells #[.slice Ao32 t13.length co32] 31 (0, 0)) (by ((with_reducible repeat (first | refine blk_drewN ?_ _ | refine blk_drew ?_ | refine blk_alloc ?_ _)); refine blk_put (cs := #[.slice none 0 0]) ?_ 0 _ rfl; (with_reducible repeat (first | refine blk_drewN ?_ _ | refine blk_drew ?_ | refine blk_alloc ?_ _)); exact BK10.out)) hb); have m3_ := Aside0.mk (Kd.S_below (by ((with_reducible repeat (first | apply Kd.S_alloc | apply Kd.S_drewN | apply Kd.S_drew)); exact Kd.S_far (p := ⟨gb10, 0, none⟩) HO15.out (fun k_ hk_ => by show k_ ≠ gb10; have h2_ := HI10.out; have h3_ : n5 ≤ k_ ∧ k_ < n6 := hk_; clear hk_; have q1_ := HN1.out; have q2_ := HN2.out; have q3_ := HN3.out; have q4_ := HN4.out; have q5_ := HN5.out; have q6_ := HN6.out; have q7_ := HN7.out; have q8_ := HN8.out; have q9_ := HN9.out; have q10_ := HN10.out; have q11_ := HN11.out; omega) _)) hb); have m4_ := Aside0.mk (Kd.R_below (by ((with_reducible repeat (first | apply Kd.R_alloc | apply Kd.R_drewN | apply Kd.R_drew)); exact Kd.R_far (p := ⟨gb10, 0, none⟩) HO19.out (fun k_ hk_ => by show k_ ≠ gb10; have h2_ := HI10.out; have h3_ : n6 ≤ k_ ∧ k_ < n7 := hk_; clear hk_; have q1_ := HN1.out; have q2_ := HN2.out; have q3_ := HN3.out; have q4_ := HN4.out; have q5_ := HN5.out; have q6_ := HN6.out; have q7_ := HN7.out; have q8_ := HN8.out; have q9_ := HN9.out; have q10_ := HN10.out; have q11_ := HN11.out; omega) _)) hb); have m5_ := Aside0.mk (Kd.S_below (by ((with_reducible repeat (first | apply Kd.S_alloc | apply Kd.S_drewN | apply Kd.S_drew)); exact Kd.S_far (p := ⟨gb10, 0, none⟩) HO23.out (fun k_ hk_ => by show k_ ≠ gb10; have h2_ := HI10.out; have h3_ : n7 ≤ k_ ∧ k_ < n8 := hk_; clear hk_; have q1_ := HN1.out; have q2_ := HN2.out; have q3_ := HN3.out; have q4_ := HN4.out; have q5_ := HN5.out; have q6_ := HN6.out; have q7_ := HN7.out; have q8_ := HN8.out; have q9_ := HN9.out; have q10_ := HN10.out; have q11_ := HN11.out; omega) _)) hb); have m6_ := Aside0.mk (Kd.R_below (by ((with_reducible repeat (first | apply Kd.R_alloc | apply Kd.R_drewN | apply Kd.R_drew)); exact Kd.R_far (p := ⟨gb10, 0, none⟩) HO28.out (fun k_ hk_ => by show k_ ≠ gb10; have h2_ := HI10.out; have h3_ : n8 ≤ k_ ∧ k_ < n9 := hk_; clear hk_; have q1_ := HN1.out; have q2_ := HN2.out; have q3_ := HN3.out; have q4_ := HN4.out; have q5_ := HN5.out; have q6_ := HN6.out; have q7_ := HN7.out; have q8_ := HN8.out; have q9_ := HN9.out; have q10_ := HN10.out; have q11_ := HN11.out; omega) _)) hb); have m7_ := Aside0.mk (Kd.S_below (by ((with_reducible repeat (first | apply Kd.S_alloc | apply Kd.S_drewN | apply Kd.S_drew)); exact Kd.S_far (p := ⟨gb10, 0, none⟩) HO32.out (fun k_ hk_ => by show k_ ≠ gb10; have h2_ := HI10.out; have h3_ : n9 ≤ k_ ∧ k_ < n10 := hk_; clear hk_; have q1_ := HN1.out; have q2_ := HN2.out; have q3_ := HN3.out; have q4_ := HN4.out; have q5_ := HN5.out; have q6_ := HN6.out; have q7_ := HN7.out; have q8_ := HN8.out; have q9_ := HN9.out; have q10_ := HN10.out; have q11_ := HN11.out; omega) _)) hb); have mB_ := Aside0.mk (below_step (by (repeat (first | (with_reducible first | exact HB.out | apply below_alloc | apply pw_below_drewN | apply below_drew1 | refine below_set ?_ GE3.out | refine below_set ?_ GE5.out | refine below_set ?_ GE10.out) | exact HB.out))) hb); have mL_ := Aside0.mk (sz_set (p := ⟨gb10, 0, none⟩) (v := .slice Ao32 t13.length co32) HZ.out); obtain ⟨n12, hn_⟩ : ∃ n_, n_ = w1044.heap.size := ⟨_, rfl⟩; have mN_ := Aside0.mk (by rw [hn_]; exact Nat.le_trans mL_.out hb.size : n11 ≤ n12); have mZ_ := Aside0.mk (Nat.le_of_eq hn_ : n12 ≤ w1044.heap.size); have xHO37_ := Aside0.mk (show Kd.R k33 33 w1044 w.heap.size (fun k_ => n11 ≤ k_ ∧ k_ < n12) _ t17 from Kd.R_mono (Kd.R_lower (Kd.R_bound ho0_) (below_size (by (repeat (first | (with_reducible first | exact HB.out | apply below_alloc | apply pw_below_drewN | apply below_drew1 | refine below_set ?_ GE3.out | refine below_set ?_ GE5.out | refine below_set ?_ GE10.out) | exact HB.out))))) (fun k_ hk_ => ⟨Nat.le_trans mL_.out hk_.2.1, by rw [hn_]; exact hk_.2.2.1⟩)); clear BK3 BK5 BK10 HO15 HO19 HO23 HO28 HO32 HB HZ; have BK3 := m0_; have BK5 := m1_; have BK10 := m2_; have HO15 := m3_; have HO19 := m4_; have HO23 := m5_; have HO28 := m6_; have HO32 := m7_; have HB := mB_; have HZ := mZ_; have HN12 := mN_; have HO37 := xHO37_; clear m0_ m1_ m2_ m3_ m4_ m5_ m6_ m7_ mB_ mN_ mZ_ mL_ xHO37_; (try clear hn_); clear hb ho0_; obtain ⟨Ao37, co37, eo_⟩ := Kd.R_slice HO37.out; subst eo_; have hc38_0 := (blk_cell BK5.out 0).trans (show (#[.slice A2_0 l2_0.length c2_0] : Array Value)[0]? = some (.slice A2_0 l2_0.length c2_0) from rfl); have hf38_0 := blk_frozen BK5.out 0) | ((with_reducible refine gate_callee (f := 14) rfl ?_); refine goesL_ (some 50) rfl rfl Try.func14 (by kernel_rfl) rfl #[.agg #[.slice A2_0 l2_0.length c2_0]] rfl (by (try simp only [List.map_toArray, List.map_cons, List.map_nil]); first | done | rfl) ?_; (with_reducible refine (laws_toMemory.calls k _ _ l2_0 t21 _ ?sr0 ?sc0 E6.out).mono ?_); (case sr0 => exact Kd.C_below HR2_0.out (by (repeat (first | (with_reducible first | exact HB.out | apply below_alloc | apply pw_below_drewN | apply below_drew1 | refine below_set ?_ GE3.out | refine below_set ?_ GE5.out | refine below_set ?_ GE10.out) | exact HB.out)))); (case sc0 => exact HC2_0.out); rintro e w1049 ⟨v10_0, rfl, ho0_, hb⟩; refine ⟨_, rfl, ?_⟩; have m0_ := Aside0.mk (blk_below (g := gb3) (o := .cells #[.slice A0_0 l0_0.length c0_0] 24 (0, 0)) (by ((with_reducible repeat (first | refine blk_drewN ?_ _ | refine blk_drew ?_ | refine blk_alloc ?_ _)); exact BK3.out)) hb); have m1_ := Aside0.mk (blk_below (g := gb5) (o := .cells #[.slice A2_0 l2_0.length c2_0] 24 (0, 0)) (by ((with_reducible repeat (first | refine blk_drewN ?_ _ | refine blk_drew ?_ | refine blk_alloc ?_ _)); exact BK5.out)) hb); have m2_ := Aside0.mk (blk_below (g := gb10) (o := .cells #[.slice Ao32 t13.length co32] 31 (0, 0)) (by ((with_reducible repeat (first | refine blk_drewN ?_ _ | refine blk_drew ?_ | refine blk_alloc ?_ _)); exact BK10.out)) hb); have m3_ := Aside0.mk (Kd.S_below (by ((with_reducible repeat (first | apply Kd.S_alloc | apply Kd.S_drewN | apply Kd.S_drew)); exact HO15.out)) hb); have m4_ := Aside0.mk (Kd.R_below (by ((with_reducible repeat (first | apply Kd.R_alloc | apply Kd.R_drewN | apply Kd.R_drew)); exact HO19.out)) hb); have m5_ := Aside0.mk (Kd.S_below (by ((with_reducible repeat (first | apply Kd.S_alloc | apply Kd.S_drewN | apply Kd.S_drew)); exact HO23.out)) hb); have m6_ := Aside0.mk (Kd.R_below (by ((with_reducible repeat (first | apply Kd.R_alloc | apply Kd.R_drewN | apply Kd.R_drew)); exact HO28.out)) hb); have m7_ := Aside0.mk (Kd.S_below (by ((with_reducible repeat (first | apply Kd.S_alloc | apply Kd.S_drewN | apply Kd.S_drew)); exact HO32.out)) hb); have m8_ := Aside0.mk (Kd.R_below (by ((with_reducible repeat (first | apply Kd.R_alloc | apply Kd.R_drewN | apply Kd.R_drew)); exact HO37.out)) hb); have mB_ := Aside0.mk (below_step (by (repeat (first | (with_reducible first | exact HB.out | apply below_alloc | apply pw_below_drewN | apply below_drew1 | refine below_set ?_ GE3.out | refine below_set ?_ GE5.out | refine below_set ?_ GE10.out) | exact HB.out))) hb); have mL_ := Aside0.mk (by (repeat (first | exact HZ.out | (with_reducible first | apply sz_alloc | apply sz_drewN | apply sz_drew | apply sz_set))) : n12 ≤ _); obtain ⟨n13, hn_⟩ : ∃ n_, n_ = w1049.heap.size := ⟨_, rfl⟩; have mN_ := Aside0.mk (by rw [hn_]; exact Nat.le_trans mL_.out hb.size : n12 ≤ n13); have mZ_ := Aside0.mk (Nat.le_of_eq hn_ : n13 ≤ w1049.heap.size); have xHO41_ := Aside0.mk (show Kd.S (Kd.slice 5 (Kd.int .u8)) 28 w1049 w.heap.size (fun k_ => n12 ≤ k_ ∧ k_ < n13) _ t21 from Kd.S_mono (Kd.S_lower (Kd.S_bound ho0_) (below_size (by (repeat (first | (with_reducible first | exact HB.out | apply below_alloc | apply pw_below_drewN | apply below_drew1 | refine below_set ?_ GE3.out | refine below_set ?_ GE5.out | refine below_set ?_ GE10.out) | exact HB.out))))) (fun k_ hk_ => ⟨Nat.le_trans mL_.out hk_.2.1, by rw [hn_]; exact hk_.2.2.1⟩)); clear BK3 BK5 BK10 HO15 HO19 HO23 HO28 HO32 HO37 HB HZ; have BK3 := m0_; have BK5 := m1_; have BK10 := m2_; have HO15 := m3_; have HO19 := m4_; have HO23 := m5_; have HO28 := m6_; have HO32 := m7_; have HO37 := m8_; have HB := mB_; have HZ := mZ_; have HN13 := mN_; have HO41 := xHO41_; clear m0_ m1_ m2_ m3_ m4_ m5_ m6_ m7_ m8_ mB_ mN_ mZ_ mL_ xHO41_; (try clear hn_); clear hb ho0_; obtain ⟨Ao41, co41, eo_⟩ := Kd.S_slice HO41.out; subst eo_) | ((with_reducible refine gate_dst (N := 12) rfl ?_); refine box_event ?hg (N := 12) ?hd (cs := #[.slice none 0 0]) (t := 31) ?hr ?_; (case hd => rfl); (case hg => rfl); (case hr => first | (go_simp; done) | (go_simp; rfl)); intro gb12 hg_ w3042 hbox hb; have m0_ := Aside0.mk (blk_below (g := gb3) (o := .cells #[.slice A0_0 l0_0.length c0_0] 24 (0, 0)) (by ((with_reducible repeat (first | refine blk_drewN ?_ _ | refine blk_drew ?_ | refine blk_alloc ?_ _)); exact BK3.out)) hb); have m1_ := Aside0.mk (blk_below (g := gb5) (o := .cells #[.slice A2_0 l2_0.length c2_0] 24 (0, 0)) (by ((with_reducible repeat (first | refine blk_drewN ?_ _ | refine blk_drew ?_ | refine blk_alloc ?_ _)); exact BK5.out)) hb); have m2_ := Aside0.mk (blk_below (g := gb10) (o := .cells #[.slice Ao32 t13.length co32] 31 (0, 0)) (by ((with_reducible repeat (first | refine blk_drewN ?_ _ | refine blk_drew ?_ | refine blk_alloc ?_ _)); exact BK10.out)) hb); have m3_ := Aside0.mk (Kd.S_below (by ((with_reducible repeat (first | apply Kd.S_alloc | apply Kd.S_drewN | apply Kd.S_drew)); exact HO15.out)) hb); have m4_ := Aside0.mk (Kd.R_below (by ((with_reducible repeat (first | apply Kd.R_alloc | apply Kd.R_drewN | apply Kd.R_drew)); exact HO19.out)) hb); have m5_ := Aside0.mk (Kd.S_below (by ((with_reducible repeat (first | apply Kd.S_alloc | apply Kd.S_drewN | apply Kd.S_drew)); exact HO23.out)) hb); have m6_ := Aside0.mk (Kd.R_below (by ((with_reducible repeat (first | apply Kd.R_alloc | apply Kd.R_drewN | apply Kd.R_drew)); exact HO28.out)) hb); have m7_ := Aside0.mk (Kd.S_below (by ((with_reducible repeat (first | apply Kd.S_alloc | apply Kd.S_drewN | apply Kd.S_drew)); exact HO32.out)) hb); have m8_ := Aside0.mk (Kd.R_below (by ((with_reducible repeat (first | apply Kd.R_alloc | apply Kd.R_drewN | apply Kd.R_drew)); exact HO37.out)) hb); have m9_ := Aside0.mk (Kd.S_below (by ((with_reducible repeat (first | apply Kd.S_alloc | apply Kd.S_drewN | apply Kd.S_drew)); exact HO41.out)) hb); have mB_ := Aside0.mk (below_step (by (repeat (first | (with_reducible first | exact HB.out | apply below_alloc | apply pw_below_drewN | apply below_drew1 | refine below_set ?_ GE3.out | refine below_set ?_ GE5.out | refine below_set ?_ GE10.out) | exact HB.out))) hb); have mL_ := Aside0.mk (by (repeat (first | exact HZ.out | (with_reducible first | apply sz_alloc | apply sz_drewN | apply sz_drew | apply sz_set))) : n13 ≤ _); obtain ⟨n14, hn_⟩ : ∃ n_, n_ = w3042.heap.size := ⟨_, rfl⟩; have mN_ := Aside0.mk (by rw [hn_]; exact Nat.le_trans mL_.out hb.size : n13 ≤ n14); have mZ_ := Aside0.mk (Nat.le_of_eq hn_ : n14 ≤ w3042.heap.size); have xBK12_ := Aside0.mk (hbox); have xGE12_ := Aside0.mk (by rw [hg_]; exact below_size (by (repeat (first | (with_reducible first | exact HB.out | apply below_alloc | apply pw_below_drewN | apply below_drew1 | refine below_set ?_ GE3.out | refine below_set ?_ GE5.out | refine below_set ?_ GE10.out) | exact HB.out))) : w.heap.size ≤ gb12); have xHI12_ := Aside0.mk (⟨by rw [hg_]; exact mL_.out, by rw [hn_]; exact blk_lt hbox⟩ : n13 ≤ gb12 ∧ gb12 < n14); clear BK3 BK5 BK10 HO15 HO19 HO23 HO28 HO32 HO37 HO41 HB HZ; have BK3 := m0_; have BK5 := m1_; have BK10 := m2_; have HO15 := m3_; have HO19 := m4_; have HO23 := m5_; have HO28 := m6_; have HO32 := m7_; have HO37 := m8_; have HO41 := m9_; have HB := mB_; have HZ := mZ_; have HN14 := mN_; have BK12 := xBK12_; have GE12 := xGE12_; have HI12 := xHI12_; clear m0_ m1_ m2_ m3_ m4_ m5_ m6_ m7_ m8_ m9_ mB_ mN_ mZ_ mL_ xBK12_ xGE12_ xHI12_; (try clear hn_); clear hb hbox hg_; have hc43_0 := (blk_cell BK10.out 0).trans (show (#[.slice Ao32 t13.length co32] : Array Value)[0]? = some (.slice Ao32 t13.length co32) from rfl); have hf43_0 := blk_frozen BK10.out 0; have hna10_12 : gb10 ≠ gb12 := (by have h1_ := HI10.out; have h2_ := HI12.out; have q1_ := HN1.out; have q2_ := HN2.out; have q3_ := HN3.out; have q4_ := HN4.out; have q5_ := HN5.out; have q6_ := HN6.out; have q7_ := HN7.out; have q8_ := HN8.out; have q9_ := HN9.out; have q10_ := HN10.out; have q11_ := HN11.out; have q12_ := HN12.out; have q13_ := HN13.out; have q14_ := HN14.out; omega); have hnb10_12 := Ne.symm hna10_12; have hc44_0 := (blk_cell BK12.out 0).trans (show (#[.slice none 0 0] : Array Value)[0]? = some (.slice none 0 0) from rfl); have hf44_0 := blk_frozen BK12.out 0) | ((with_reducible refine gate_callee (f := 41) rfl ?_); refine goesL_ (some 55) rfl rfl Try.func41 (by kernel_rfl) rfl #[.agg #[.slice Ao32 t13.length co32], .slice Ao37 t17.length co37, .agg #[.slice Ao41 t21.length co41]] rfl (by (try simp only [List.map_toArray, List.map_cons, List.map_nil]); first | done | rfl) ?_; (with_reducible refine (impl_ChangedSince.calls k _ _ t13 _ _ t17 _ _ t21 g24 ok25 _ ?sr0 ?sc0 ?sr1 ?sc1 ?sr2 ?sc2 E11.out).mono ?_); (case sr0 => exact (Kd.S_reads' (Kd.S_far (p := ⟨gb12, 0, none⟩) HO32.out (fun k_ hk_ => by show k_ ≠ gb12; have h2_ := HI12.out; have h3_ : n9 ≤ k_ ∧ k_ < n10 := hk_; clear hk_; have q1_ := HN1.out; have q2_ := HN2.out; have q3_ := HN3.out; have q4_ := HN4.out; have q5_ := HN5.out; have q6_ := HN6.out; have q7_ := HN7.out; have q8_ := HN8.out; have q9_ := HN9.out; have q10_ := HN10.out; have q11_ := HN11.out; have q12_ := HN12.out; have q13_ := HN13.out; have q14_ := HN14.out; omega) _)).2.2); (case sc0 => first | exact (Kd.S_reads' HO32.out).2.1 | exact Nat.le_trans (Nat.le_of_eq (Kd.S_reads' HO32.out).1.symm) (Kd.S_reads' HO32.out).2.1); (case sr1 => exact (Kd.R_reads' (Kd.R_far (p := ⟨gb12, 0, none⟩) HO37.out (fun k_ hk_ => by show k_ ≠ gb12; have h2_ := HI12.out; have h3_ : n11 ≤ k_ ∧ k_ < n12 := hk_; clear hk_; have q1_ := HN1.out; have q2_ := HN2.out; have q3_ := HN3.out; have q4_ := HN4.out; have q5_ := HN5.out; have q6_ := HN6.out; have q7_ := HN7.out; have q8_ := HN8.out; have q9_ := HN9.out; have q10_ := HN10.out; have q11_ := HN11.out; have q12_ := HN12.out; have q13_ := HN13.out; have q14_ := HN14.out; omega) _)).2.2); (case sc1 => first | exact (Kd.R_reads' HO37.out).2.1 | exact Nat.le_trans (Nat.le_of_eq (Kd.R_reads' HO37.out).1.symm) (Kd.R_reads' HO37.out).2.1); (case sr2 => exact (Kd.S_reads' (Kd.S_far (p := ⟨gb12, 0, none⟩) HO41.out (fun k_ hk_ => by show k_ ≠ gb12; have h2_ := HI12.out; have h3_ : n12 ≤ k_ ∧ k_ < n13 := hk_; clear hk_; have q1_ := HN1.out; have q2_ := HN2.out; have q3_ := HN3.out; have q4_ := HN4.out; have q5_ := HN5.out; have q6_ := HN6.out; have q7_ := HN7.out; have q8_ := HN8.out; have q9_ := HN9.out; have q10_ := HN10.out; have q11_ := HN11.out; have q12_ := HN12.out; have q13_ := HN13.out; have q14_ := HN14.out; omega) _)).2.2); (case sc2 => first | exact (Kd.S_reads' HO41.out).2.1 | exact Nat.le_trans (Nat.le_of_eq (Kd.S_reads' HO41.out).1.symm) (Kd.S_reads' HO41.out).2.1); rintro e w1055 ⟨v11_0, rfl, ho0_, hb⟩; refine ⟨_, rfl, ?_⟩; have m0_ := Aside0.mk (blk_below (g := gb3) (o := .cells #[.slice A0_0 l0_0.length c0_0] 24 (0, 0)) (by ((with_reducible repeat (first | refine blk_drewN ?_ _ | refine blk_drew ?_ | refine blk_alloc ?_ _)); refine blk_far ?_ (by show gb3 ≠ gb12; have h1_ := HI3.out; have h2_ := HI12.out; have q1_ := HN1.out; have q2_ := HN2.out; have q3_ := HN3.out; have q4_ := HN4.out; have q5_ := HN5.out; have q6_ := HN6.out; have q7_ := HN7.out; have q8_ := HN8.out; have q9_ := HN9.out; have q10_ := HN10.out; have q11_ := HN11.out; have q12_ := HN12.out; have q13_ := HN13.out; have q14_ := HN14.out; omega) _; (with_reducible repeat (first | refine blk_drewN ?_ _ | refine blk_drew ?_ | refine blk_alloc ?_ _)); exact BK3.out)) hb); have m1_ := Aside0.mk (blk_below (g := gb5) (o := .cells #[.slice A2_0 l2_0.length c2_0] 24 (0, 0)) (by ((with_reducible repeat (first | refine blk_drewN ?_ _ | refine blk_drew ?_ | refine blk_alloc ?_ _)); refine blk_far ?_ (by show gb5 ≠ gb12; have h1_ := HI5.out; have h2_ := HI12.out; have q1_ := HN1.out; have q2_ := HN2.out; have q3_ := HN3.out; have q4_ := HN4.out; have q5_ := HN5.out; have q6_ := HN6.out; have q7_ := HN7.out; have q8_ := HN8.out; have q9_ := HN9.out; have q10_ := HN10.out; have q11_ := HN11.out; have q12_ := HN12.out; have q13_ := HN13.out; have q14_ := HN14.out; omega) _; (with_reducible repeat (first | refine blk_drewN ?_ _ | refine blk_drew ?_ | refine blk_alloc ?_ _)); exact BK5.out)) hb); have m2_ := Aside0.mk (blk_below (g := gb10) (o := .cells #[.slice Ao32 t13.length co32] 31 (0, 0)) (by ((with_reducible repeat (first | refine blk_drewN ?_ _ | refine blk_drew ?_ | refine blk_alloc ?_ _)); refine blk_far ?_ (by show gb10 ≠ gb12; have h1_ := HI10.out; have h2_ := HI12.out; have q1_ := HN1.out; have q2_ := HN2.out; have q3_ := HN3.out; have q4_ := HN4.out; have q5_ := HN5.out; have q6_ := HN6.out; have q7_ := HN7.out; have q8_ := HN8.out; have q9_ := HN9.out; have q10_ := HN10.out; have q11_ := HN11.out; have q12_ := HN12.out; have q13_ := HN13.out; have q14_ := HN14.out; omega) _; (with_reducible repeat (first | refine blk_drewN ?_ _ | refine blk_drew ?_ | refine blk_alloc ?_ _)); exact BK10.out)) hb); have m3_ := Aside0.mk (blk_below (g := gb12) (o := .cells #[.slice Ao41 t21.length co41] 31 (0, 0)) (by ((with_reducible repeat (first | refine blk_drewN ?_ _ | refine blk_drew ?_ | refine blk_alloc ?_ _)); refine blk_put (cs := #[.slice none 0 0]) ?_ 0 _ rfl; (with_reducible repeat (first | refine blk_drewN ?_ _ | refine blk_drew ?_ | refine blk_alloc ?_ _)); exact BK12.out)) hb); have m4_ := Aside0.mk (Kd.S_below (by ((with_reducible repeat (first | apply Kd.S_alloc | apply Kd.S_drewN | apply Kd.S_drew)); exact Kd.S_far (p := ⟨gb12, 0, none⟩) HO15.out (fun k_ hk_ => by show k_ ≠ gb12; have h2_ := HI12.out; have h3_ : n5 ≤ k_ ∧ k_ < n6 := hk_; clear hk_; have q1_ := HN1.out; have q2_ := HN2.out; have q3_ := HN3.out; have q4_ := HN4.out; have q5_ := HN5.out; have q6_ := HN6.out; have q7_ := HN7.out; have q8_ := HN8.out; have q9_ := HN9.out; have q10_ := HN10.out; have q11_ := HN11.out; have q12_ := HN12.out; have q13_ := HN13.out; have q14_ := HN14.out; omega) _)) hb); have m5_ := Aside0.mk (Kd.R_below (by ((with_reducible repeat (first | apply Kd.R_alloc | apply Kd.R_drewN | apply Kd.R_drew)); exact Kd.R_far (p := ⟨gb12, 0, none⟩) HO19.out (fun k_ hk_ => by show k_ ≠ gb12; have h2_ := HI12.out; have h3_ : n6 ≤ k_ ∧ k_ < n7 := hk_; clear hk_; have q1_ := HN1.out; have q2_ := HN2.out; have q3_ := HN3.out; have q4_ := HN4.out; have q5_ := HN5.out; have q6_ := HN6.out; have q7_ := HN7.out; have q8_ := HN8.out; have q9_ := HN9.out; have q10_ := HN10.out; have q11_ := HN11.out; have q12_ := HN12.out; have q13_ := HN13.out; have q14_ := HN14.out; omega) _)) hb); have m6_ := Aside0.mk (Kd.S_below (by ((with_reducible repeat (first | apply Kd.S_alloc | apply Kd.S_drewN | apply Kd.S_drew)); exact Kd.S_far (p := ⟨gb12, 0, none⟩) HO23.out (fun k_ hk_ => by show k_ ≠ gb12; have h2_ := HI12.out; have h3_ : n7 ≤ k_ ∧ k_ < n8 := hk_; clear hk_; have q1_ := HN1.out; have q2_ := HN2.out; have q3_ := HN3.out; have q4_ := HN4.out; have q5_ := HN5.out; have q6_ := HN6.out; have q7_ := HN7.out; have q8_ := HN8.out; have q9_ := HN9.out; have q10_ := HN10.out; have q11_ := HN11.out; have q12_ := HN12.out; have q13_ := HN13.out; have q14_ := HN14.out; omega) _)) hb); have m7_ := Aside0.mk (Kd.R_below (by ((with_reducible repeat (first | apply Kd.R_alloc | apply Kd.R_drewN | apply Kd.R_drew)); exact Kd.R_far (p := ⟨gb12, 0, none⟩) HO28.out (fun k_ hk_ => by show k_ ≠ gb12; have h2_ := HI12.out; have h3_ : n8 ≤ k_ ∧ k_ < n9 := hk_; clear hk_; have q1_ := HN1.out; have q2_ := HN2.out; have q3_ := HN3.out; have q4_ := HN4.out; have q5_ := HN5.out; have q6_ := HN6.out; have q7_ := HN7.out; have q8_ := HN8.out; have q9_ := HN9.out; have q10_ := HN10.out; have q11_ := HN11.out; have q12_ := HN12.out; have q13_ := HN13.out; have q14_ := HN14.out; omega) _)) hb); have m8_ := Aside0.mk (Kd.S_below (by ((with_reducible repeat (first | apply Kd.S_alloc | apply Kd.S_drewN | apply Kd.S_drew)); exact Kd.S_far (p := ⟨gb12, 0, none⟩) HO32.out (fun k_ hk_ => by show k_ ≠ gb12; have h2_ := HI12.out; have h3_ : n9 ≤ k_ ∧ k_ < n10 := hk_; clear hk_; have q1_ := HN1.out; have q2_ := HN2.out; have q3_ := HN3.out; have q4_ := HN4.out; have q5_ := HN5.out; have q6_ := HN6.out; have q7_ := HN7.out; have q8_ := HN8.out; have q9_ := HN9.out; have q10_ := HN10.out; have q11_ := HN11.out; have q12_ := HN12.out; have q13_ := HN13.out; have q14_ := HN14.out; omega) _)) hb); have m9_ := Aside0.mk (Kd.R_below (by ((with_reducible repeat (first | apply Kd.R_alloc | apply Kd.R_drewN | apply Kd.R_drew)); exact Kd.R_far (p := ⟨gb12, 0, none⟩) HO37.out (fun k_ hk_ => by show k_ ≠ gb12; have h2_ := HI12.out; have h3_ : n11 ≤ k_ ∧ k_ < n12 := hk_; clear hk_; have q1_ := HN1.out; have q2_ := HN2.out; have q3_ := HN3.out; have q4_ := HN4.out; have q5_ := HN5.out; have q6_ := HN6.out; have q7_ := HN7.out; have q8_ := HN8.out; have q9_ := HN9.out; have q10_ := HN10.out; have q11_ := HN11.out; have q12_ := HN12.out; have q13_ := HN13.out; have q14_ := HN14.out; omega) _)) hb); have m10_ := Aside0.mk (Kd.S_below (by ((with_reducible repeat (first | apply Kd.S_alloc | apply Kd.S_drewN | apply Kd.S_drew)); exact Kd.S_far (p := ⟨gb12, 0, none⟩) HO41.out (fun k_ hk_ => by show k_ ≠ gb12; have h2_ := HI12.out; have h3_ : n12 ≤ k_ ∧ k_ < n13 := hk_; clear hk_; have q1_ := HN1.out; have q2_ := HN2.out; have q3_ := HN3.out; have q4_ := HN4.out; have q5_ := HN5.out; have q6_ := HN6.out; have q7_ := HN7.out; have q8_ := HN8.out; have q9_ := HN9.out; have q10_ := HN10.out; have q11_ := HN11.out; have q12_ := HN12.out; have q13_ := HN13.out; have q14_ := HN14.out; omega) _)) hb); have mB_ := Aside0.mk (below_step (by (repeat (first | (with_reducible first | exact HB.out | apply below_alloc | apply pw_below_drewN | apply below_drew1 | refine below_set ?_ GE3.out | refine below_set ?_ GE5.out | refine below_set ?_ GE10.out | refine below_set ?_ GE12.out) | exact HB.out))) hb); have mL_ := Aside0.mk (sz_set (p := ⟨gb12, 0, none⟩) (v := .slice Ao41 t21.length co41) HZ.out); obtain ⟨n15, hn_⟩ : ∃ n_, n_ = w1055.heap.size := ⟨_, rfl⟩; have mN_ := Aside0.mk (by rw [hn_]; exact Nat.le_trans mL_.out hb.size : n14 ≤ n15); have mZ_ := Aside0.mk (Nat.le_of_eq hn_ : n15 ≤ w1055.heap.size); have xHO46_ := Aside0.mk (show Kd.R (Kd.int .i64) 3 w1055 w.heap.size (fun k_ => n14 ≤ k_ ∧ k_ < n15) _ g24 from Kd.R_mono (Kd.R_lower (Kd.R_bound ho0_) (below_size (by (repeat (first | (with_reducible first | exact HB.out | apply below_alloc | apply pw_below_drewN | apply below_drew1 | refine below_set ?_ GE3.out | refine below_set ?_ GE5.out | refine below_set ?_ GE10.out | refine below_set ?_ GE12.out) | exact HB.out))))) (fun k_ hk_ => ⟨Nat.le_trans mL_.out hk_.2.1, by rw [hn_]; exact hk_.2.2.1⟩)); clear BK3 BK5 BK10 BK12 HO15 HO19 HO23 HO28 HO32 HO37 HO41 HB HZ; have BK3 := m0_; have BK5 := m1_; have BK10 := m2_; have BK12 := m3_; have HO15 := m4_; have HO19 := m5_; have HO23 := m6_; have HO28 := m7_; have HO32 := m8_; have HO37 := m9_; have HO41 := m10_; have HB := mB_; have HZ := mZ_; have HN15 := mN_; have HO46 := xHO46_; clear m0_ m1_ m2_ m3_ m4_ m5_ m6_ m7_ m8_ m9_ m10_ mB_ mN_ mZ_ mL_ xHO46_; (try clear hn_); clear hb ho0_; obtain ⟨Ao46, co46, eo_⟩ := Kd.R_slice HO46.out; subst eo_) | ((with_reducible refine gate_callee (f := 29) rfl ?_); refine goesL_ (some 60) rfl rfl Try.func29 (by kernel_rfl) rfl #[.slice Ao46 g24.length co46, .slice Ao28 s26.length co28] rfl (by (try simp only [List.map_toArray, List.map_cons, List.map_nil]); first | done | rfl) ?_; (with_reducible refine (laws_eqIntS.calls k _ _ g24 _ _ s26 true _ ?sr0 ?sc0 ?sr1 ?sc1 E12.out).mono ?_); (case sr0 => repeat (first | exact (Kd.R_reads' HO46.out).2.2 | (with_reducible refine Kd.C_alloc ?_ _) | (with_reducible refine Kd.C_drewN ?_ _) | (with_reducible refine Kd.C_drew ?_))); (case sc0 => first | exact (Kd.R_reads' HO46.out).2.1 | exact Nat.le_trans (Nat.le_of_eq (Kd.R_reads' HO46.out).1.symm) (Kd.R_reads' HO46.out).2.1); (case sr1 => repeat (first | exact (Kd.R_reads' HO28.out).2.2 | (with_reducible refine Kd.C_alloc ?_ _) | (with_reducible refine Kd.C_drewN ?_ _) | (with_reducible refine Kd.C_drew ?_))); (case sc1 => first | exact (Kd.R_reads' HO28.out).2.1 | exact Nat.le_trans (Nat.le_of_eq (Kd.R_reads' HO28.out).1.symm) (Kd.R_reads' HO28.out).2.1); rintro e w1058 ⟨rfl, hd_⟩; have hb := hd_.below; clear hd_; refine ⟨_, rfl, ?_⟩; have m0_ := Aside0.mk (blk_below (g := gb3) (o := .cells #[.slice A0_0 l0_0.length c0_0] 24 (0, 0)) (by ((with_reducible repeat (first | refine blk_drewN ?_ _ | refine blk_drew ?_ | refine blk_alloc ?_ _)); exact BK3.out)) hb); have m1_ := Aside0.mk (blk_below (g := gb5) (o := .cells #[.slice A2_0 l2_0.length c2_0] 24 (0, 0)) (by ((with_reducible repeat (first | refine blk_drewN ?_ _ | refine blk_drew ?_ | refine blk_alloc ?_ _)); exact BK5.out)) hb); have m2_ := Aside0.mk (blk_below (g := gb10) (o := .cells #[.slice Ao32 t13.length co32] 31 (0, 0)) (by ((with_reducible repeat (first | refine blk_drewN ?_ _ | refine blk_drew ?_ | refine blk_alloc ?_ _)); exact BK10.out)) hb); have m3_ := Aside0.mk (blk_below (g := gb12) (o := .cells #[.slice Ao41 t21.length co41] 31 (0, 0)) (by ((with_reducible repeat (first | refine blk_drewN ?_ _ | refine blk_drew ?_ | refine blk_alloc ?_ _)); exact BK12.out)) hb); have m4_ := Aside0.mk (Kd.S_below (by ((with_reducible repeat (first | apply Kd.S_alloc | apply Kd.S_drewN | apply Kd.S_drew)); exact HO15.out)) hb); have m5_ := Aside0.mk (Kd.R_below (by ((with_reducible repeat (first | apply Kd.R_alloc | apply Kd.R_drewN | apply Kd.R_drew)); exact HO19.out)) hb); have m6_ := Aside0.mk (Kd.S_below (by ((with_reducible repeat (first | apply Kd.S_alloc | apply Kd.S_drewN | apply Kd.S_drew)); exact HO23.out)) hb); have m7_ := Aside0.mk (Kd.R_below (by ((with_reducible repeat (first | apply Kd.R_alloc | apply Kd.R_drewN | apply Kd.R_drew)); exact HO28.out)) hb); have m8_ := Aside0.mk (Kd.S_below (by ((with_reducible repeat (first | apply Kd.S_alloc | apply Kd.S_drewN | apply Kd.S_drew)); exact HO32.out)) hb); have m9_ := Aside0.mk (Kd.R_below (by ((with_reducible repeat (first | apply Kd.R_alloc | apply Kd.R_drewN | apply Kd.R_drew)); exact HO37.out)) hb); have m10_ := Aside0.mk (Kd.S_below (by ((with_reducible repeat (first | apply Kd.S_alloc | apply Kd.S_drewN | apply Kd.S_drew)); exact HO41.out)) hb); have m11_ := Aside0.mk (Kd.R_below (by ((with_reducible repeat (first | apply Kd.R_alloc | apply Kd.R_drewN | apply Kd.R_drew)); exact HO46.out)) hb); have mB_ := Aside0.mk (below_step (by (repeat (first | (with_reducible first | exact HB.out | apply below_alloc | apply pw_below_drewN | apply below_drew1 | refine below_set ?_ GE3.out | refine below_set ?_ GE5.out | refine below_set ?_ GE10.out | refine below_set ?_ GE12.out) | exact HB.out))) hb); have mL_ := Aside0.mk (by (repeat (first | exact HZ.out | (with_reducible first | apply sz_alloc | apply sz_drewN | apply sz_drew | apply sz_set))) : n15 ≤ _); obtain ⟨n16, hn_⟩ : ∃ n_, n_ = w1058.heap.size := ⟨_, rfl⟩; have mN_ := Aside0.mk (by rw [hn_]; exact Nat.le_trans mL_.out hb.size : n15 ≤ n16); have mZ_ := Aside0.mk (Nat.le_of_eq hn_ : n16 ≤ w1058.heap.size); clear BK3 BK5 BK10 BK12 HO15 HO19 HO23 HO28 HO32 HO37 HO41 HO46 HB HZ; have BK3 := m0_; have BK5 := m1_; have BK10 := m2_; have BK12 := m3_; have HO15 := m4_; have HO19 := m5_; have HO23 := m6_; have HO28 := m7_; have HO32 := m8_; have HO37 := m9_; have HO41 := m10_; have HO46 := m11_; have HB := mB_; have HZ := mZ_; have HN16 := mN_; clear m0_ m1_ m2_ m3_ m4_ m5_ m6_ m7_ m8_ m9_ m10_ m11_ mB_ mN_ mZ_ mL_; (try clear hn_); clear hb))
  try go_wp2
  have m0_ := Aside0.mk (show (World.drew w1058).heap[gb3]? = some (Obj.cells #[.slice A0_0 l0_0.length c0_0] 24 (0, 0)) from blk_drew (by ((with_reducible repeat (first | refine blk_drewN ?_ _ | refine blk_drew ?_ | refine blk_alloc ?_ _)); exact BK3.out)))
  have m1_ := Aside0.mk (show (World.drew w1058).heap[gb5]? = some (Obj.cells #[.slice A2_0 l2_0.length c2_0] 24 (0, 0)) from blk_drew (by ((with_reducible repeat (first | refine blk_drewN ?_ _ | refine blk_drew ?_ | refine blk_alloc ?_ _)); exact BK5.out)))
  have m2_ := Aside0.mk (show (World.drew w1058).heap[gb10]? = some (Obj.cells #[.slice Ao32 t13.length co32] 31 (0, 0)) from blk_drew (by ((with_reducible repeat (first | refine blk_drewN ?_ _ | refine blk_drew ?_ | refine blk_alloc ?_ _)); exact BK10.out)))
  have m3_ := Aside0.mk (show (World.drew w1058).heap[gb12]? = some (Obj.cells #[.slice Ao41 t21.length co41] 31 (0, 0)) from blk_drew (by ((with_reducible repeat (first | refine blk_drewN ?_ _ | refine blk_drew ?_ | refine blk_alloc ?_ _)); exact BK12.out)))
  have m4_ := Aside0.mk (show Kd.S (Kd.slice 5 (Kd.int .u8)) 28 w1058.drew w.heap.size (fun k_ => n5 ≤ k_ ∧ k_ < n6) (.slice Ao15 t13.length co15) t13 from Kd.S_drew (by ((with_reducible repeat (first | apply Kd.S_alloc | apply Kd.S_drewN | apply Kd.S_drew)); exact HO15.out)))
  have m5_ := Aside0.mk (show Kd.R k33 33 w1058.drew w.heap.size (fun k_ => n6 ≤ k_ ∧ k_ < n7) (.slice Ao19 t17.length co19) t17 from Kd.R_drew (by ((with_reducible repeat (first | apply Kd.R_alloc | apply Kd.R_drewN | apply Kd.R_drew)); exact HO19.out)))
  have m6_ := Aside0.mk (show Kd.S (Kd.slice 5 (Kd.int .u8)) 28 w1058.drew w.heap.size (fun k_ => n7 ≤ k_ ∧ k_ < n8) (.slice Ao23 t21.length co23) t21 from Kd.S_drew (by ((with_reducible repeat (first | apply Kd.S_alloc | apply Kd.S_drewN | apply Kd.S_drew)); exact HO23.out)))
  have m7_ := Aside0.mk (show Kd.R (Kd.int .i64) 3 w1058.drew w.heap.size (fun k_ => n8 ≤ k_ ∧ k_ < n9) (.slice Ao28 s26.length co28) s26 from Kd.R_drew (by ((with_reducible repeat (first | apply Kd.R_alloc | apply Kd.R_drewN | apply Kd.R_drew)); exact HO28.out)))
  have m8_ := Aside0.mk (show Kd.S (Kd.slice 5 (Kd.int .u8)) 28 w1058.drew w.heap.size (fun k_ => n9 ≤ k_ ∧ k_ < n10) (.slice Ao32 t13.length co32) t13 from Kd.S_drew (by ((with_reducible repeat (first | apply Kd.S_alloc | apply Kd.S_drewN | apply Kd.S_drew)); exact HO32.out)))
  have m9_ := Aside0.mk (show Kd.R k33 33 w1058.drew w.heap.size (fun k_ => n11 ≤ k_ ∧ k_ < n12) (.slice Ao37 t17.length co37) t17 from Kd.R_drew (by ((with_reducible repeat (first | apply Kd.R_alloc | apply Kd.R_drewN | apply Kd.R_drew)); exact HO37.out)))
  have m10_ := Aside0.mk (show Kd.S (Kd.slice 5 (Kd.int .u8)) 28 w1058.drew w.heap.size (fun k_ => n12 ≤ k_ ∧ k_ < n13) (.slice Ao41 t21.length co41) t21 from Kd.S_drew (by ((with_reducible repeat (first | apply Kd.S_alloc | apply Kd.S_drewN | apply Kd.S_drew)); exact HO41.out)))
  have m11_ := Aside0.mk (show Kd.R (Kd.int .i64) 3 w1058.drew w.heap.size (fun k_ => n14 ≤ k_ ∧ k_ < n15) (.slice Ao46 g24.length co46) g24 from Kd.R_drew (by ((with_reducible repeat (first | apply Kd.R_alloc | apply Kd.R_drewN | apply Kd.R_drew)); exact HO46.out)))
  have m12_ := Aside0.mk (show Below w.heap.size w w1058.drew from below_drew1 (by (repeat (first | (with_reducible first | exact HB.out | apply below_alloc | apply pw_below_drewN | apply below_drew1 | refine below_set ?_ GE3.out | refine below_set ?_ GE5.out | refine below_set ?_ GE10.out | refine below_set ?_ GE12.out) | exact HB.out))))
  have m13_ := Aside0.mk (show n16 ≤ w1058.drew.heap.size from sz_drew (by (repeat (first | exact HZ.out | (with_reducible first | apply sz_alloc | apply sz_drewN | apply sz_drew | apply sz_set)))))
  clear BK3 BK5 BK10 BK12 HO15 HO19 HO23 HO28 HO32 HO37 HO41 HO46 HB HZ
  have BK3 := m0_
  have BK5 := m1_
  have BK10 := m2_
  have BK12 := m3_
  have HO15 := m4_
  have HO19 := m5_
  have HO23 := m6_
  have HO28 := m7_
  have HO32 := m8_
  have HO37 := m9_
  have HO41 := m10_
  have HO46 := m11_
  have HB := m12_
  have HZ := m13_
  clear m0_ m1_ m2_ m3_ m4_ m5_ m6_ m7_ m8_ m9_ m10_ m11_ m12_ m13_
  refine start_ (n := 5) (S := fun w' => w'.cell? ⟨gb10, 0, none⟩ = some (.slice Ao32 t13.length co32) ∧ w'.cell? ⟨gb3, 0, none⟩ = some (.slice A0_0 l0_0.length c0_0)) (ds := []) #[false, false, false, false, false] (by kernel_rfl) rfl rfl ⟨(blk_cell BK10.out 0).trans rfl, (blk_cell BK3.out 0).trans rfl⟩ (fun hHeld => ?_)
  generalize w1058.drew = w2048 at BK3 BK5 BK10 BK12 HO15 HO19 HO23 HO28 HO32 HO37 HO41 HO46 HB HZ hHeld ⊢
  refine take_ (i := 0) (N := some 67) (v := ?_) (a' := ?_) #[true, false, false, false, false] rfl rfl (by kernel_rfl) (fun _ _ _ h => h) (Or.inl ⟨by rfl, ?_⟩) hHeld ?_ ?_
  rotate_left
  · rintro w' ⟨s0_, s1_⟩
    go_simp
    with_reducible rfl
  rotate_left
  · simp only [Act.put, List.setIfInBounds_toArray, List.set_cons_zero, List.set_cons_succ, i64_w, i32_w]
    rfl
  refine take_ (i := 1) (N := some 68) (v := ?_) (a' := ?_) #[true, true, false, false, false] rfl rfl (by kernel_rfl) (fun _ _ _ h => h) (Or.inl ⟨by rfl, ?_⟩) hHeld ?_ ?_
  rotate_left
  · rintro w' ⟨s0_, s1_⟩
    go_simp
    with_reducible rfl
  rotate_left
  · simp only [Act.put, List.setIfInBounds_toArray, List.set_cons_zero, List.set_cons_succ, i64_w, i32_w]
    rfl
  refine one_ (i := 2) (N := some 69) #[true, true, true, false, false] rfl rfl (by kernel_rfl) (by decide) (fun K hK => ?_)
  refine goes_ Try.func14 (by kernel_rfl) rfl #[.agg #[.slice A0_0 l0_0.length c0_0]] (by rfl) rfl rfl (by (try simp only [List.map_toArray, List.map_cons, List.map_nil]); first | done | rfl | (simp only [List.length_drop, List.length_take]; rfl)) ?_
  (with_reducible refine (laws_toMemory.calls k _ _ l0_0 t13 _ ?sr0 ?sc0 E4.out).mono ?_)
  (case sr0 => exact Kd.C_below HR0_0.out (by (repeat (first | (with_reducible first | exact HB.out | apply below_alloc | apply pw_below_drewN | apply below_drew1 | refine below_set ?_ GE3.out | refine below_set ?_ GE5.out | refine below_set ?_ GE10.out | refine below_set ?_ GE12.out) | exact HB.out))))
  (case sc0 => exact HC0_0.out)
  rintro e w1062 ⟨v13_0, rfl, ho0_, hb⟩
  refine ⟨_, rfl, ?_⟩
  have m0_ := Aside0.mk (blk_below (g := gb3) (o := .cells #[.slice A0_0 l0_0.length c0_0] 24 (0, 0)) (by ((with_reducible repeat (first | refine blk_drewN ?_ _ | refine blk_drew ?_ | refine blk_alloc ?_ _)); exact BK3.out)) hb)
  have m1_ := Aside0.mk (blk_below (g := gb5) (o := .cells #[.slice A2_0 l2_0.length c2_0] 24 (0, 0)) (by ((with_reducible repeat (first | refine blk_drewN ?_ _ | refine blk_drew ?_ | refine blk_alloc ?_ _)); exact BK5.out)) hb)
  have m2_ := Aside0.mk (blk_below (g := gb10) (o := .cells #[.slice Ao32 t13.length co32] 31 (0, 0)) (by ((with_reducible repeat (first | refine blk_drewN ?_ _ | refine blk_drew ?_ | refine blk_alloc ?_ _)); exact BK10.out)) hb)
  have m3_ := Aside0.mk (blk_below (g := gb12) (o := .cells #[.slice Ao41 t21.length co41] 31 (0, 0)) (by ((with_reducible repeat (first | refine blk_drewN ?_ _ | refine blk_drew ?_ | refine blk_alloc ?_ _)); exact BK12.out)) hb)
  have m4_ := Aside0.mk (Kd.S_below (by ((with_reducible repeat (first | apply Kd.S_alloc | apply Kd.S_drewN | apply Kd.S_drew)); exact HO15.out)) hb)
  have m5_ := Aside0.mk (Kd.R_below (by ((with_reducible repeat (first | apply Kd.R_alloc | apply Kd.R_drewN | apply Kd.R_drew)); exact HO19.out)) hb)
  have m6_ := Aside0.mk (Kd.S_below (by ((with_reducible repeat (first | apply Kd.S_alloc | apply Kd.S_drewN | apply Kd.S_drew)); exact HO23.out)) hb)
  have m7_ := Aside0.mk (Kd.R_below (by ((with_reducible repeat (first | apply Kd.R_alloc | apply Kd.R_drewN | apply Kd.R_drew)); exact HO28.out)) hb)
  have m8_ := Aside0.mk (Kd.S_below (by ((with_reducible repeat (first | apply Kd.S_alloc | apply Kd.S_drewN | apply Kd.S_drew)); exact HO32.out)) hb)
  have m9_ := Aside0.mk (Kd.R_below (by ((with_reducible repeat (first | apply Kd.R_alloc | apply Kd.R_drewN | apply Kd.R_drew)); exact HO37.out)) hb)
  have m10_ := Aside0.mk (Kd.S_below (by ((with_reducible repeat (first | apply Kd.S_alloc | apply Kd.S_drewN | apply Kd.S_drew)); exact HO41.out)) hb)
  have m11_ := Aside0.mk (Kd.R_below (by ((with_reducible repeat (first | apply Kd.R_alloc | apply Kd.R_drewN | apply Kd.R_drew)); exact HO46.out)) hb)
  have mB_ := Aside0.mk (below_step (by (repeat (first | (with_reducible first | exact HB.out | apply below_alloc | apply pw_below_drewN | apply below_drew1 | refine below_set ?_ GE3.out | refine below_set ?_ GE5.out | refine below_set ?_ GE10.out | refine below_set ?_ GE12.out) | exact HB.out))) hb)
  have mL_ := Aside0.mk (by (repeat (first | exact HZ.out | (with_reducible first | apply sz_alloc | apply sz_drewN | apply sz_drew | apply sz_set))) : n16 ≤ _)
  obtain ⟨n17, hn_⟩ : ∃ n_, n_ = w1062.heap.size := ⟨_, rfl⟩
  have mN_ := Aside0.mk (by rw [hn_]; exact Nat.le_trans mL_.out hb.size : n16 ≤ n17)
  have mZ_ := Aside0.mk (Nat.le_of_eq hn_ : n17 ≤ w1062.heap.size)
  have xHO51_ := Aside0.mk (show Kd.S (Kd.slice 5 (Kd.int .u8)) 28 w1062 w.heap.size (fun k_ => n16 ≤ k_ ∧ k_ < n17) _ t13 from Kd.S_mono (Kd.S_lower (Kd.S_bound ho0_) (below_size (by (repeat (first | (with_reducible first | exact HB.out | apply below_alloc | apply pw_below_drewN | apply below_drew1 | refine below_set ?_ GE3.out | refine below_set ?_ GE5.out | refine below_set ?_ GE10.out | refine below_set ?_ GE12.out) | exact HB.out))))) (fun k_ hk_ => ⟨Nat.le_trans mL_.out hk_.2.1, by rw [hn_]; exact hk_.2.2.1⟩))
  clear BK3 BK5 BK10 BK12 HO15 HO19 HO23 HO28 HO32 HO37 HO41 HO46 HB HZ
  have BK3 := m0_
  have BK5 := m1_
  have BK10 := m2_
  have BK12 := m3_
  have HO15 := m4_
  have HO19 := m5_
  have HO23 := m6_
  have HO28 := m7_
  have HO32 := m8_
  have HO37 := m9_
  have HO41 := m10_
  have HO46 := m11_
  have HB := mB_
  have HZ := mZ_
  have HN17 := mN_
  have HO51 := xHO51_
  clear m0_ m1_ m2_ m3_ m4_ m5_ m6_ m7_ m8_ m9_ m10_ m11_ mB_ mN_ mZ_ mL_ xHO51_
  (try clear hn_)
  clear hb ho0_
  obtain ⟨Ao51, co51, eo_⟩ := Kd.S_slice HO51.out; subst eo_
  refine hK.out _ _ ⟨(blk_cell BK10.out 0).trans rfl, (blk_cell BK3.out 0).trans rfl⟩ (fun hHeld => ?_)
  clear hK K
  refine norm_ (a' := ?_) ?_ ?_
  rotate_left
  · show Act.put _ (some 69) _ = _
    simp only [Act.put, List.setIfInBounds_toArray, List.set_cons_zero, List.set_cons_succ, i64_w, i32_w]
    rfl
  refine one_ (i := 3) (N := some 70) #[true, true, true, true, false] rfl rfl (by kernel_rfl) (by decide) (fun K hK => ?_)
  refine goes_ Try.func18 (by kernel_rfl) rfl #[.agg #[.slice Ao32 t13.length co32], .agg #[.slice Ao51 t13.length co51]] (by rfl) rfl rfl (by (try simp only [List.map_toArray, List.map_cons, List.map_nil]); first | done | rfl | (simp only [List.length_drop, List.length_take]; rfl)) ?_
  (with_reducible refine (laws_eqMemory.calls k _ _ t13 _ _ t13 true _ ?sr0 ?sc0 ?sr1 ?sc1 E14.out).mono ?_)
  (case sr0 => repeat (first | exact (Kd.S_reads' HO32.out).2.2 | (with_reducible refine Kd.C_alloc ?_ _) | (with_reducible refine Kd.C_drewN ?_ _) | (with_reducible refine Kd.C_drew ?_)))
  (case sc0 => first | exact (Kd.S_reads' HO32.out).2.1 | exact Nat.le_trans (Nat.le_of_eq (Kd.S_reads' HO32.out).1.symm) (Kd.S_reads' HO32.out).2.1)
  (case sr1 => repeat (first | exact (Kd.S_reads' HO51.out).2.2 | (with_reducible refine Kd.C_alloc ?_ _) | (with_reducible refine Kd.C_drewN ?_ _) | (with_reducible refine Kd.C_drew ?_)))
  (case sc1 => first | exact (Kd.S_reads' HO51.out).2.1 | exact Nat.le_trans (Nat.le_of_eq (Kd.S_reads' HO51.out).1.symm) (Kd.S_reads' HO51.out).2.1)
  rintro e w1065 ⟨rfl, hb⟩
  refine ⟨_, rfl, ?_⟩
  have m0_ := Aside0.mk (blk_below (g := gb3) (o := .cells #[.slice A0_0 l0_0.length c0_0] 24 (0, 0)) (by ((with_reducible repeat (first | refine blk_drewN ?_ _ | refine blk_drew ?_ | refine blk_alloc ?_ _)); exact BK3.out)) hb)
  have m1_ := Aside0.mk (blk_below (g := gb5) (o := .cells #[.slice A2_0 l2_0.length c2_0] 24 (0, 0)) (by ((with_reducible repeat (first | refine blk_drewN ?_ _ | refine blk_drew ?_ | refine blk_alloc ?_ _)); exact BK5.out)) hb)
  have m2_ := Aside0.mk (blk_below (g := gb10) (o := .cells #[.slice Ao32 t13.length co32] 31 (0, 0)) (by ((with_reducible repeat (first | refine blk_drewN ?_ _ | refine blk_drew ?_ | refine blk_alloc ?_ _)); exact BK10.out)) hb)
  have m3_ := Aside0.mk (blk_below (g := gb12) (o := .cells #[.slice Ao41 t21.length co41] 31 (0, 0)) (by ((with_reducible repeat (first | refine blk_drewN ?_ _ | refine blk_drew ?_ | refine blk_alloc ?_ _)); exact BK12.out)) hb)
  have m4_ := Aside0.mk (Kd.S_below (by ((with_reducible repeat (first | apply Kd.S_alloc | apply Kd.S_drewN | apply Kd.S_drew)); exact HO15.out)) hb)
  have m5_ := Aside0.mk (Kd.R_below (by ((with_reducible repeat (first | apply Kd.R_alloc | apply Kd.R_drewN | apply Kd.R_drew)); exact HO19.out)) hb)
  have m6_ := Aside0.mk (Kd.S_below (by ((with_reducible repeat (first | apply Kd.S_alloc | apply Kd.S_drewN | apply Kd.S_drew)); exact HO23.out)) hb)
  have m7_ := Aside0.mk (Kd.R_below (by ((with_reducible repeat (first | apply Kd.R_alloc | apply Kd.R_drewN | apply Kd.R_drew)); exact HO28.out)) hb)
  have m8_ := Aside0.mk (Kd.S_below (by ((with_reducible repeat (first | apply Kd.S_alloc | apply Kd.S_drewN | apply Kd.S_drew)); exact HO32.out)) hb)
  have m9_ := Aside0.mk (Kd.R_below (by ((with_reducible repeat (first | apply Kd.R_alloc | apply Kd.R_drewN | apply Kd.R_drew)); exact HO37.out)) hb)
  have m10_ := Aside0.mk (Kd.S_below (by ((with_reducible repeat (first | apply Kd.S_alloc | apply Kd.S_drewN | apply Kd.S_drew)); exact HO41.out)) hb)
  have m11_ := Aside0.mk (Kd.R_below (by ((with_reducible repeat (first | apply Kd.R_alloc | apply Kd.R_drewN | apply Kd.R_drew)); exact HO46.out)) hb)
  have m12_ := Aside0.mk (Kd.S_below (by ((with_reducible repeat (first | apply Kd.S_alloc | apply Kd.S_drewN | apply Kd.S_drew)); exact HO51.out)) hb)
  have mB_ := Aside0.mk (below_step (by (repeat (first | (with_reducible first | exact HB.out | apply below_alloc | apply pw_below_drewN | apply below_drew1 | refine below_set ?_ GE3.out | refine below_set ?_ GE5.out | refine below_set ?_ GE10.out | refine below_set ?_ GE12.out) | exact HB.out))) hb)
  have mL_ := Aside0.mk (by (repeat (first | exact HZ.out | (with_reducible first | apply sz_alloc | apply sz_drewN | apply sz_drew | apply sz_set))) : n17 ≤ _)
  obtain ⟨n18, hn_⟩ : ∃ n_, n_ = w1065.heap.size := ⟨_, rfl⟩
  have mN_ := Aside0.mk (by rw [hn_]; exact Nat.le_trans mL_.out hb.size : n17 ≤ n18)
  have mZ_ := Aside0.mk (Nat.le_of_eq hn_ : n18 ≤ w1065.heap.size)
  clear BK3 BK5 BK10 BK12 HO15 HO19 HO23 HO28 HO32 HO37 HO41 HO46 HO51 HB HZ
  have BK3 := m0_
  have BK5 := m1_
  have BK10 := m2_
  have BK12 := m3_
  have HO15 := m4_
  have HO19 := m5_
  have HO23 := m6_
  have HO28 := m7_
  have HO32 := m8_
  have HO37 := m9_
  have HO41 := m10_
  have HO46 := m11_
  have HO51 := m12_
  have HB := mB_
  have HZ := mZ_
  have HN18 := mN_
  clear m0_ m1_ m2_ m3_ m4_ m5_ m6_ m7_ m8_ m9_ m10_ m11_ m12_ mB_ mN_ mZ_ mL_
  (try clear hn_)
  clear hb
  refine hK.out _ _ ⟨(blk_cell BK10.out 0).trans rfl, (blk_cell BK3.out 0).trans rfl⟩ (fun hHeld => ?_)
  clear hK K
  refine norm_ (a' := ?_) ?_ ?_
  rotate_left
  · show Act.put _ (some 70) _ = _
    simp only [Act.put, List.setIfInBounds_toArray, List.set_cons_zero, List.set_cons_succ, i64_w, i32_w]
    rfl
  refine pure_ (i := 4) (N := some 71) (v := ?_) (a' := ?_) #[true, true, true, true, true] rfl rfl (by kernel_rfl) (fun _ _ _ h => h) (Or.inl ⟨by rfl, ?_⟩) ?_ ?_
  rotate_left
  · intro w'
    go_simp
    with_reducible rfl
  rotate_left
  · simp only [Act.put, List.setIfInBounds_toArray, List.set_cons_zero, List.set_cons_succ, i64_w, i32_w]
    rfl
  refine done_ (by kernel_rfl) ?_
  go_upto_region 22 with (first | ((with_reducible refine gate_callee (f := 24) rfl ?_); refine goesL_ (some 74) rfl rfl Try.func24 (by kernel_rfl) rfl #[.slice A1 l1.length c1] rfl (by (try simp only [List.map_toArray, List.map_cons, List.map_nil]); first | done | rfl) ?_; (with_reducible refine (laws_toWindowS.calls k _ _ l1 t17 _ ?sr0 ?sc0 E5.out).mono ?_); (case sr0 => exact Kd.C_below HR1.out (by (repeat (first | (with_reducible first | exact HB.out | apply below_alloc | apply pw_below_drewN | apply below_drew1 | refine below_set ?_ GE3.out | refine below_set ?_ GE5.out | refine below_set ?_ GE10.out | refine below_set ?_ GE12.out) | exact HB.out)))); (case sc0 => exact HC1.out); rintro e w1068 ⟨v15_0, rfl, ho0_, hb⟩; refine ⟨_, rfl, ?_⟩; have m0_ := Aside0.mk (blk_below (g := gb3) (o := .cells #[.slice A0_0 l0_0.length c0_0] 24 (0, 0)) (by ((with_reducible repeat (first | refine blk_drewN ?_ _ | refine blk_drew ?_ | refine blk_alloc ?_ _)); exact BK3.out)) hb); have m1_ := Aside0.mk (blk_below (g := gb5) (o := .cells #[.slice A2_0 l2_0.length c2_0] 24 (0, 0)) (by ((with_reducible repeat (first | refine blk_drewN ?_ _ | refine blk_drew ?_ | refine blk_alloc ?_ _)); exact BK5.out)) hb); have m2_ := Aside0.mk (blk_below (g := gb10) (o := .cells #[.slice Ao32 t13.length co32] 31 (0, 0)) (by ((with_reducible repeat (first | refine blk_drewN ?_ _ | refine blk_drew ?_ | refine blk_alloc ?_ _)); exact BK10.out)) hb); have m3_ := Aside0.mk (blk_below (g := gb12) (o := .cells #[.slice Ao41 t21.length co41] 31 (0, 0)) (by ((with_reducible repeat (first | refine blk_drewN ?_ _ | refine blk_drew ?_ | refine blk_alloc ?_ _)); exact BK12.out)) hb); have m4_ := Aside0.mk (Kd.S_below (by ((with_reducible repeat (first | apply Kd.S_alloc | apply Kd.S_drewN | apply Kd.S_drew)); exact HO15.out)) hb); have m5_ := Aside0.mk (Kd.R_below (by ((with_reducible repeat (first | apply Kd.R_alloc | apply Kd.R_drewN | apply Kd.R_drew)); exact HO19.out)) hb); have m6_ := Aside0.mk (Kd.S_below (by ((with_reducible repeat (first | apply Kd.S_alloc | apply Kd.S_drewN | apply Kd.S_drew)); exact HO23.out)) hb); have m7_ := Aside0.mk (Kd.R_below (by ((with_reducible repeat (first | apply Kd.R_alloc | apply Kd.R_drewN | apply Kd.R_drew)); exact HO28.out)) hb); have m8_ := Aside0.mk (Kd.S_below (by ((with_reducible repeat (first | apply Kd.S_alloc | apply Kd.S_drewN | apply Kd.S_drew)); exact HO32.out)) hb); have m9_ := Aside0.mk (Kd.R_below (by ((with_reducible repeat (first | apply Kd.R_alloc | apply Kd.R_drewN | apply Kd.R_drew)); exact HO37.out)) hb); have m10_ := Aside0.mk (Kd.S_below (by ((with_reducible repeat (first | apply Kd.S_alloc | apply Kd.S_drewN | apply Kd.S_drew)); exact HO41.out)) hb); have m11_ := Aside0.mk (Kd.R_below (by ((with_reducible repeat (first | apply Kd.R_alloc | apply Kd.R_drewN | apply Kd.R_drew)); exact HO46.out)) hb); have m12_ := Aside0.mk (Kd.S_below (by ((with_reducible repeat (first | apply Kd.S_alloc | apply Kd.S_drewN | apply Kd.S_drew)); exact HO51.out)) hb); have mB_ := Aside0.mk (below_step (by (repeat (first | (with_reducible first | exact HB.out | apply below_alloc | apply pw_below_drewN | apply below_drew1 | refine below_set ?_ GE3.out | refine below_set ?_ GE5.out | refine below_set ?_ GE10.out | refine below_set ?_ GE12.out) | exact HB.out))) hb); have mL_ := Aside0.mk (by (repeat (first | exact HZ.out | (with_reducible first | apply sz_alloc | apply sz_drewN | apply sz_drew | apply sz_set))) : n18 ≤ _); obtain ⟨n19, hn_⟩ : ∃ n_, n_ = w1068.heap.size := ⟨_, rfl⟩; have mN_ := Aside0.mk (by rw [hn_]; exact Nat.le_trans mL_.out hb.size : n18 ≤ n19); have mZ_ := Aside0.mk (Nat.le_of_eq hn_ : n19 ≤ w1068.heap.size); have xHO55_ := Aside0.mk (show Kd.R k33 33 w1068 w.heap.size (fun k_ => n18 ≤ k_ ∧ k_ < n19) _ t17 from Kd.R_mono (Kd.R_lower (Kd.R_bound ho0_) (below_size (by (repeat (first | (with_reducible first | exact HB.out | apply below_alloc | apply pw_below_drewN | apply below_drew1 | refine below_set ?_ GE3.out | refine below_set ?_ GE5.out | refine below_set ?_ GE10.out | refine below_set ?_ GE12.out) | exact HB.out))))) (fun k_ hk_ => ⟨Nat.le_trans mL_.out hk_.2.1, by rw [hn_]; exact hk_.2.2.1⟩)); clear BK3 BK5 BK10 BK12 HO15 HO19 HO23 HO28 HO32 HO37 HO41 HO46 HO51 HB HZ; have BK3 := m0_; have BK5 := m1_; have BK10 := m2_; have BK12 := m3_; have HO15 := m4_; have HO19 := m5_; have HO23 := m6_; have HO28 := m7_; have HO32 := m8_; have HO37 := m9_; have HO41 := m10_; have HO46 := m11_; have HO51 := m12_; have HB := mB_; have HZ := mZ_; have HN19 := mN_; have HO55 := xHO55_; clear m0_ m1_ m2_ m3_ m4_ m5_ m6_ m7_ m8_ m9_ m10_ m11_ m12_ mB_ mN_ mZ_ mL_ xHO55_; (try clear hn_); clear hb ho0_; obtain ⟨Ao55, co55, eo_⟩ := Kd.R_slice HO55.out; subst eo_) | ((with_reducible refine gate_callee (f := 26) rfl ?_); refine goesL_ (some 75) rfl rfl Try.func26 (by kernel_rfl) rfl #[.slice Ao37 t17.length co37, .slice Ao55 t17.length co55] rfl (by (try simp only [List.map_toArray, List.map_cons, List.map_nil]); first | done | rfl) ?_; (with_reducible refine (laws_eqWindowS.calls k _ _ t17 _ _ t17 true _ ?sr0 ?sc0 ?sr1 ?sc1 E16.out).mono ?_); (case sr0 => repeat (first | exact (Kd.R_reads' HO37.out).2.2 | (with_reducible refine Kd.C_alloc ?_ _) | (with_reducible refine Kd.C_drewN ?_ _) | (with_reducible refine Kd.C_drew ?_))); (case sc0 => first | exact (Kd.R_reads' HO37.out).2.1 | exact Nat.le_trans (Nat.le_of_eq (Kd.R_reads' HO37.out).1.symm) (Kd.R_reads' HO37.out).2.1); (case sr1 => repeat (first | exact (Kd.R_reads' HO55.out).2.2 | (with_reducible refine Kd.C_alloc ?_ _) | (with_reducible refine Kd.C_drewN ?_ _) | (with_reducible refine Kd.C_drew ?_))); (case sc1 => first | exact (Kd.R_reads' HO55.out).2.1 | exact Nat.le_trans (Nat.le_of_eq (Kd.R_reads' HO55.out).1.symm) (Kd.R_reads' HO55.out).2.1); rintro e w1071 ⟨rfl, hb⟩; refine ⟨_, rfl, ?_⟩; have m0_ := Aside0.mk (blk_below (g := gb3) (o := .cells #[.slice A0_0 l0_0.length c0_0] 24 (0, 0)) (by ((with_reducible repeat (first | refine blk_drewN ?_ _ | refine blk_drew ?_ | refine blk_alloc ?_ _)); exact BK3.out)) hb); have m1_ := Aside0.mk (blk_below (g := gb5) (o := .cells #[.slice A2_0 l2_0.length c2_0] 24 (0, 0)) (by ((with_reducible repeat (first | refine blk_drewN ?_ _ | refine blk_drew ?_ | refine blk_alloc ?_ _)); exact BK5.out)) hb); have m2_ := Aside0.mk (blk_below (g := gb10) (o := .cells #[.slice Ao32 t13.length co32] 31 (0, 0)) (by ((with_reducible repeat (first | refine blk_drewN ?_ _ | refine blk_drew ?_ | refine blk_alloc ?_ _)); exact BK10.out)) hb); have m3_ := Aside0.mk (blk_below (g := gb12) (o := .cells #[.slice Ao41 t21.length co41] 31 (0, 0)) (by ((with_reducible repeat (first | refine blk_drewN ?_ _ | refine blk_drew ?_ | refine blk_alloc ?_ _)); exact BK12.out)) hb); have m4_ := Aside0.mk (Kd.S_below (by ((with_reducible repeat (first | apply Kd.S_alloc | apply Kd.S_drewN | apply Kd.S_drew)); exact HO15.out)) hb); have m5_ := Aside0.mk (Kd.R_below (by ((with_reducible repeat (first | apply Kd.R_alloc | apply Kd.R_drewN | apply Kd.R_drew)); exact HO19.out)) hb); have m6_ := Aside0.mk (Kd.S_below (by ((with_reducible repeat (first | apply Kd.S_alloc | apply Kd.S_drewN | apply Kd.S_drew)); exact HO23.out)) hb); have m7_ := Aside0.mk (Kd.R_below (by ((with_reducible repeat (first | apply Kd.R_alloc | apply Kd.R_drewN | apply Kd.R_drew)); exact HO28.out)) hb); have m8_ := Aside0.mk (Kd.S_below (by ((with_reducible repeat (first | apply Kd.S_alloc | apply Kd.S_drewN | apply Kd.S_drew)); exact HO32.out)) hb); have m9_ := Aside0.mk (Kd.R_below (by ((with_reducible repeat (first | apply Kd.R_alloc | apply Kd.R_drewN | apply Kd.R_drew)); exact HO37.out)) hb); have m10_ := Aside0.mk (Kd.S_below (by ((with_reducible repeat (first | apply Kd.S_alloc | apply Kd.S_drewN | apply Kd.S_drew)); exact HO41.out)) hb); have m11_ := Aside0.mk (Kd.R_below (by ((with_reducible repeat (first | apply Kd.R_alloc | apply Kd.R_drewN | apply Kd.R_drew)); exact HO46.out)) hb); have m12_ := Aside0.mk (Kd.S_below (by ((with_reducible repeat (first | apply Kd.S_alloc | apply Kd.S_drewN | apply Kd.S_drew)); exact HO51.out)) hb); have m13_ := Aside0.mk (Kd.R_below (by ((with_reducible repeat (first | apply Kd.R_alloc | apply Kd.R_drewN | apply Kd.R_drew)); exact HO55.out)) hb); have mB_ := Aside0.mk (below_step (by (repeat (first | (with_reducible first | exact HB.out | apply below_alloc | apply pw_below_drewN | apply below_drew1 | refine below_set ?_ GE3.out | refine below_set ?_ GE5.out | refine below_set ?_ GE10.out | refine below_set ?_ GE12.out) | exact HB.out))) hb); have mL_ := Aside0.mk (by (repeat (first | exact HZ.out | (with_reducible first | apply sz_alloc | apply sz_drewN | apply sz_drew | apply sz_set))) : n19 ≤ _); obtain ⟨n20, hn_⟩ : ∃ n_, n_ = w1071.heap.size := ⟨_, rfl⟩; have mN_ := Aside0.mk (by rw [hn_]; exact Nat.le_trans mL_.out hb.size : n19 ≤ n20); have mZ_ := Aside0.mk (Nat.le_of_eq hn_ : n20 ≤ w1071.heap.size); clear BK3 BK5 BK10 BK12 HO15 HO19 HO23 HO28 HO32 HO37 HO41 HO46 HO51 HO55 HB HZ; have BK3 := m0_; have BK5 := m1_; have BK10 := m2_; have BK12 := m3_; have HO15 := m4_; have HO19 := m5_; have HO23 := m6_; have HO28 := m7_; have HO32 := m8_; have HO37 := m9_; have HO41 := m10_; have HO46 := m11_; have HO51 := m12_; have HO55 := m13_; have HB := mB_; have HZ := mZ_; have HN20 := mN_; clear m0_ m1_ m2_ m3_ m4_ m5_ m6_ m7_ m8_ m9_ m10_ m11_ m12_ m13_ mB_ mN_ mZ_ mL_; (try clear hn_); clear hb))
  try go_wp2
  have m0_ := Aside0.mk (show (World.drew w1071).heap[gb3]? = some (Obj.cells #[.slice A0_0 l0_0.length c0_0] 24 (0, 0)) from blk_drew (by ((with_reducible repeat (first | refine blk_drewN ?_ _ | refine blk_drew ?_ | refine blk_alloc ?_ _)); exact BK3.out)))
  have m1_ := Aside0.mk (show (World.drew w1071).heap[gb5]? = some (Obj.cells #[.slice A2_0 l2_0.length c2_0] 24 (0, 0)) from blk_drew (by ((with_reducible repeat (first | refine blk_drewN ?_ _ | refine blk_drew ?_ | refine blk_alloc ?_ _)); exact BK5.out)))
  have m2_ := Aside0.mk (show (World.drew w1071).heap[gb10]? = some (Obj.cells #[.slice Ao32 t13.length co32] 31 (0, 0)) from blk_drew (by ((with_reducible repeat (first | refine blk_drewN ?_ _ | refine blk_drew ?_ | refine blk_alloc ?_ _)); exact BK10.out)))
  have m3_ := Aside0.mk (show (World.drew w1071).heap[gb12]? = some (Obj.cells #[.slice Ao41 t21.length co41] 31 (0, 0)) from blk_drew (by ((with_reducible repeat (first | refine blk_drewN ?_ _ | refine blk_drew ?_ | refine blk_alloc ?_ _)); exact BK12.out)))
  have m4_ := Aside0.mk (show Kd.S (Kd.slice 5 (Kd.int .u8)) 28 w1071.drew w.heap.size (fun k_ => n5 ≤ k_ ∧ k_ < n6) (.slice Ao15 t13.length co15) t13 from Kd.S_drew (by ((with_reducible repeat (first | apply Kd.S_alloc | apply Kd.S_drewN | apply Kd.S_drew)); exact HO15.out)))
  have m5_ := Aside0.mk (show Kd.R k33 33 w1071.drew w.heap.size (fun k_ => n6 ≤ k_ ∧ k_ < n7) (.slice Ao19 t17.length co19) t17 from Kd.R_drew (by ((with_reducible repeat (first | apply Kd.R_alloc | apply Kd.R_drewN | apply Kd.R_drew)); exact HO19.out)))
  have m6_ := Aside0.mk (show Kd.S (Kd.slice 5 (Kd.int .u8)) 28 w1071.drew w.heap.size (fun k_ => n7 ≤ k_ ∧ k_ < n8) (.slice Ao23 t21.length co23) t21 from Kd.S_drew (by ((with_reducible repeat (first | apply Kd.S_alloc | apply Kd.S_drewN | apply Kd.S_drew)); exact HO23.out)))
  have m7_ := Aside0.mk (show Kd.R (Kd.int .i64) 3 w1071.drew w.heap.size (fun k_ => n8 ≤ k_ ∧ k_ < n9) (.slice Ao28 s26.length co28) s26 from Kd.R_drew (by ((with_reducible repeat (first | apply Kd.R_alloc | apply Kd.R_drewN | apply Kd.R_drew)); exact HO28.out)))
  have m8_ := Aside0.mk (show Kd.S (Kd.slice 5 (Kd.int .u8)) 28 w1071.drew w.heap.size (fun k_ => n9 ≤ k_ ∧ k_ < n10) (.slice Ao32 t13.length co32) t13 from Kd.S_drew (by ((with_reducible repeat (first | apply Kd.S_alloc | apply Kd.S_drewN | apply Kd.S_drew)); exact HO32.out)))
  have m9_ := Aside0.mk (show Kd.R k33 33 w1071.drew w.heap.size (fun k_ => n11 ≤ k_ ∧ k_ < n12) (.slice Ao37 t17.length co37) t17 from Kd.R_drew (by ((with_reducible repeat (first | apply Kd.R_alloc | apply Kd.R_drewN | apply Kd.R_drew)); exact HO37.out)))
  have m10_ := Aside0.mk (show Kd.S (Kd.slice 5 (Kd.int .u8)) 28 w1071.drew w.heap.size (fun k_ => n12 ≤ k_ ∧ k_ < n13) (.slice Ao41 t21.length co41) t21 from Kd.S_drew (by ((with_reducible repeat (first | apply Kd.S_alloc | apply Kd.S_drewN | apply Kd.S_drew)); exact HO41.out)))
  have m11_ := Aside0.mk (show Kd.R (Kd.int .i64) 3 w1071.drew w.heap.size (fun k_ => n14 ≤ k_ ∧ k_ < n15) (.slice Ao46 g24.length co46) g24 from Kd.R_drew (by ((with_reducible repeat (first | apply Kd.R_alloc | apply Kd.R_drewN | apply Kd.R_drew)); exact HO46.out)))
  have m12_ := Aside0.mk (show Kd.S (Kd.slice 5 (Kd.int .u8)) 28 w1071.drew w.heap.size (fun k_ => n16 ≤ k_ ∧ k_ < n17) (.slice Ao51 t13.length co51) t13 from Kd.S_drew (by ((with_reducible repeat (first | apply Kd.S_alloc | apply Kd.S_drewN | apply Kd.S_drew)); exact HO51.out)))
  have m13_ := Aside0.mk (show Kd.R k33 33 w1071.drew w.heap.size (fun k_ => n18 ≤ k_ ∧ k_ < n19) (.slice Ao55 t17.length co55) t17 from Kd.R_drew (by ((with_reducible repeat (first | apply Kd.R_alloc | apply Kd.R_drewN | apply Kd.R_drew)); exact HO55.out)))
  have m14_ := Aside0.mk (show Below w.heap.size w w1071.drew from below_drew1 (by (repeat (first | (with_reducible first | exact HB.out | apply below_alloc | apply pw_below_drewN | apply below_drew1 | refine below_set ?_ GE3.out | refine below_set ?_ GE5.out | refine below_set ?_ GE10.out | refine below_set ?_ GE12.out) | exact HB.out))))
  have m15_ := Aside0.mk (show n20 ≤ w1071.drew.heap.size from sz_drew (by (repeat (first | exact HZ.out | (with_reducible first | apply sz_alloc | apply sz_drewN | apply sz_drew | apply sz_set)))))
  clear BK3 BK5 BK10 BK12 HO15 HO19 HO23 HO28 HO32 HO37 HO41 HO46 HO51 HO55 HB HZ
  have BK3 := m0_
  have BK5 := m1_
  have BK10 := m2_
  have BK12 := m3_
  have HO15 := m4_
  have HO19 := m5_
  have HO23 := m6_
  have HO28 := m7_
  have HO32 := m8_
  have HO37 := m9_
  have HO41 := m10_
  have HO46 := m11_
  have HO51 := m12_
  have HO55 := m13_
  have HB := m14_
  have HZ := m15_
  clear m0_ m1_ m2_ m3_ m4_ m5_ m6_ m7_ m8_ m9_ m10_ m11_ m12_ m13_ m14_ m15_
  refine start_ (n := 5) (S := fun w' => w'.cell? ⟨gb12, 0, none⟩ = some (.slice Ao41 t21.length co41) ∧ w'.cell? ⟨gb5, 0, none⟩ = some (.slice A2_0 l2_0.length c2_0)) (ds := []) #[false, false, false, false, false] (by kernel_rfl) rfl rfl ⟨(blk_cell BK12.out 0).trans rfl, (blk_cell BK5.out 0).trans rfl⟩ (fun hHeld => ?_)
  generalize w1071.drew = w2057 at BK3 BK5 BK10 BK12 HO15 HO19 HO23 HO28 HO32 HO37 HO41 HO46 HO51 HO55 HB HZ hHeld ⊢
  refine take_ (i := 0) (N := some 77) (v := ?_) (a' := ?_) #[true, false, false, false, false] rfl rfl (by kernel_rfl) (fun _ _ _ h => h) (Or.inl ⟨by rfl, ?_⟩) hHeld ?_ ?_
  rotate_left
  · rintro w' ⟨s0_, s1_⟩
    go_simp
    with_reducible rfl
  rotate_left
  · simp only [Act.put, List.setIfInBounds_toArray, List.set_cons_zero, List.set_cons_succ, i64_w, i32_w]
    rfl
  refine take_ (i := 1) (N := some 78) (v := ?_) (a' := ?_) #[true, true, false, false, false] rfl rfl (by kernel_rfl) (fun _ _ _ h => h) (Or.inl ⟨by rfl, ?_⟩) hHeld ?_ ?_
  rotate_left
  · rintro w' ⟨s0_, s1_⟩
    go_simp
    with_reducible rfl
  rotate_left
  · simp only [Act.put, List.setIfInBounds_toArray, List.set_cons_zero, List.set_cons_succ, i64_w, i32_w]
    rfl
  refine one_ (i := 2) (N := some 79) #[true, true, true, false, false] rfl rfl (by kernel_rfl) (by decide) (fun K hK => ?_)
  refine goes_ Try.func14 (by kernel_rfl) rfl #[.agg #[.slice A2_0 l2_0.length c2_0]] (by rfl) rfl rfl (by (try simp only [List.map_toArray, List.map_cons, List.map_nil]); first | done | rfl | (simp only [List.length_drop, List.length_take]; rfl)) ?_
  (with_reducible refine (laws_toMemory.calls k _ _ l2_0 t21 _ ?sr0 ?sc0 E6.out).mono ?_)
  (case sr0 => exact Kd.C_below HR2_0.out (by (repeat (first | (with_reducible first | exact HB.out | apply below_alloc | apply pw_below_drewN | apply below_drew1 | refine below_set ?_ GE3.out | refine below_set ?_ GE5.out | refine below_set ?_ GE10.out | refine below_set ?_ GE12.out) | exact HB.out))))
  (case sc0 => exact HC2_0.out)
  rintro e w1075 ⟨v17_0, rfl, ho0_, hb⟩
  refine ⟨_, rfl, ?_⟩
  have m0_ := Aside0.mk (blk_below (g := gb3) (o := .cells #[.slice A0_0 l0_0.length c0_0] 24 (0, 0)) (by ((with_reducible repeat (first | refine blk_drewN ?_ _ | refine blk_drew ?_ | refine blk_alloc ?_ _)); exact BK3.out)) hb)
  have m1_ := Aside0.mk (blk_below (g := gb5) (o := .cells #[.slice A2_0 l2_0.length c2_0] 24 (0, 0)) (by ((with_reducible repeat (first | refine blk_drewN ?_ _ | refine blk_drew ?_ | refine blk_alloc ?_ _)); exact BK5.out)) hb)
  have m2_ := Aside0.mk (blk_below (g := gb10) (o := .cells #[.slice Ao32 t13.length co32] 31 (0, 0)) (by ((with_reducible repeat (first | refine blk_drewN ?_ _ | refine blk_drew ?_ | refine blk_alloc ?_ _)); exact BK10.out)) hb)
  have m3_ := Aside0.mk (blk_below (g := gb12) (o := .cells #[.slice Ao41 t21.length co41] 31 (0, 0)) (by ((with_reducible repeat (first | refine blk_drewN ?_ _ | refine blk_drew ?_ | refine blk_alloc ?_ _)); exact BK12.out)) hb)
  have m4_ := Aside0.mk (Kd.S_below (by ((with_reducible repeat (first | apply Kd.S_alloc | apply Kd.S_drewN | apply Kd.S_drew)); exact HO15.out)) hb)
  have m5_ := Aside0.mk (Kd.R_below (by ((with_reducible repeat (first | apply Kd.R_alloc | apply Kd.R_drewN | apply Kd.R_drew)); exact HO19.out)) hb)
  have m6_ := Aside0.mk (Kd.S_below (by ((with_reducible repeat (first | apply Kd.S_alloc | apply Kd.S_drewN | apply Kd.S_drew)); exact HO23.out)) hb)
  have m7_ := Aside0.mk (Kd.R_below (by ((with_reducible repeat (first | apply Kd.R_alloc | apply Kd.R_drewN | apply Kd.R_drew)); exact HO28.out)) hb)
  have m8_ := Aside0.mk (Kd.S_below (by ((with_reducible repeat (first | apply Kd.S_alloc | apply Kd.S_drewN | apply Kd.S_drew)); exact HO32.out)) hb)
  have m9_ := Aside0.mk (Kd.R_below (by ((with_reducible repeat (first | apply Kd.R_alloc | apply Kd.R_drewN | apply Kd.R_drew)); exact HO37.out)) hb)
  have m10_ := Aside0.mk (Kd.S_below (by ((with_reducible repeat (first | apply Kd.S_alloc | apply Kd.S_drewN | apply Kd.S_drew)); exact HO41.out)) hb)
  have m11_ := Aside0.mk (Kd.R_below (by ((with_reducible repeat (first | apply Kd.R_alloc | apply Kd.R_drewN | apply Kd.R_drew)); exact HO46.out)) hb)
  have m12_ := Aside0.mk (Kd.S_below (by ((with_reducible repeat (first | apply Kd.S_alloc | apply Kd.S_drewN | apply Kd.S_drew)); exact HO51.out)) hb)
  have m13_ := Aside0.mk (Kd.R_below (by ((with_reducible repeat (first | apply Kd.R_alloc | apply Kd.R_drewN | apply Kd.R_drew)); exact HO55.out)) hb)
  have mB_ := Aside0.mk (below_step (by (repeat (first | (with_reducible first | exact HB.out | apply below_alloc | apply pw_below_drewN | apply below_drew1 | refine below_set ?_ GE3.out | refine below_set ?_ GE5.out | refine below_set ?_ GE10.out | refine below_set ?_ GE12.out) | exact HB.out))) hb)
  have mL_ := Aside0.mk (by (repeat (first | exact HZ.out | (with_reducible first | apply sz_alloc | apply sz_drewN | apply sz_drew | apply sz_set))) : n20 ≤ _)
  obtain ⟨n21, hn_⟩ : ∃ n_, n_ = w1075.heap.size := ⟨_, rfl⟩
  have mN_ := Aside0.mk (by rw [hn_]; exact Nat.le_trans mL_.out hb.size : n20 ≤ n21)
  have mZ_ := Aside0.mk (Nat.le_of_eq hn_ : n21 ≤ w1075.heap.size)
  have xHO60_ := Aside0.mk (show Kd.S (Kd.slice 5 (Kd.int .u8)) 28 w1075 w.heap.size (fun k_ => n20 ≤ k_ ∧ k_ < n21) _ t21 from Kd.S_mono (Kd.S_lower (Kd.S_bound ho0_) (below_size (by (repeat (first | (with_reducible first | exact HB.out | apply below_alloc | apply pw_below_drewN | apply below_drew1 | refine below_set ?_ GE3.out | refine below_set ?_ GE5.out | refine below_set ?_ GE10.out | refine below_set ?_ GE12.out) | exact HB.out))))) (fun k_ hk_ => ⟨Nat.le_trans mL_.out hk_.2.1, by rw [hn_]; exact hk_.2.2.1⟩))
  clear BK3 BK5 BK10 BK12 HO15 HO19 HO23 HO28 HO32 HO37 HO41 HO46 HO51 HO55 HB HZ
  have BK3 := m0_
  have BK5 := m1_
  have BK10 := m2_
  have BK12 := m3_
  have HO15 := m4_
  have HO19 := m5_
  have HO23 := m6_
  have HO28 := m7_
  have HO32 := m8_
  have HO37 := m9_
  have HO41 := m10_
  have HO46 := m11_
  have HO51 := m12_
  have HO55 := m13_
  have HB := mB_
  have HZ := mZ_
  have HN21 := mN_
  have HO60 := xHO60_
  clear m0_ m1_ m2_ m3_ m4_ m5_ m6_ m7_ m8_ m9_ m10_ m11_ m12_ m13_ mB_ mN_ mZ_ mL_ xHO60_
  (try clear hn_)
  clear hb ho0_
  obtain ⟨Ao60, co60, eo_⟩ := Kd.S_slice HO60.out; subst eo_
  refine hK.out _ _ ⟨(blk_cell BK12.out 0).trans rfl, (blk_cell BK5.out 0).trans rfl⟩ (fun hHeld => ?_)
  clear hK K
  refine norm_ (a' := ?_) ?_ ?_
  rotate_left
  · show Act.put _ (some 79) _ = _
    simp only [Act.put, List.setIfInBounds_toArray, List.set_cons_zero, List.set_cons_succ, i64_w, i32_w]
    rfl
  refine one_ (i := 3) (N := some 80) #[true, true, true, true, false] rfl rfl (by kernel_rfl) (by decide) (fun K hK => ?_)
  refine goes_ Try.func18 (by kernel_rfl) rfl #[.agg #[.slice Ao41 t21.length co41], .agg #[.slice Ao60 t21.length co60]] (by rfl) rfl rfl (by (try simp only [List.map_toArray, List.map_cons, List.map_nil]); first | done | rfl | (simp only [List.length_drop, List.length_take]; rfl)) ?_
  (with_reducible refine (laws_eqMemory.calls k _ _ t21 _ _ t21 true _ ?sr0 ?sc0 ?sr1 ?sc1 E18.out).mono ?_)
  (case sr0 => repeat (first | exact (Kd.S_reads' HO41.out).2.2 | (with_reducible refine Kd.C_alloc ?_ _) | (with_reducible refine Kd.C_drewN ?_ _) | (with_reducible refine Kd.C_drew ?_)))
  (case sc0 => first | exact (Kd.S_reads' HO41.out).2.1 | exact Nat.le_trans (Nat.le_of_eq (Kd.S_reads' HO41.out).1.symm) (Kd.S_reads' HO41.out).2.1)
  (case sr1 => repeat (first | exact (Kd.S_reads' HO60.out).2.2 | (with_reducible refine Kd.C_alloc ?_ _) | (with_reducible refine Kd.C_drewN ?_ _) | (with_reducible refine Kd.C_drew ?_)))
  (case sc1 => first | exact (Kd.S_reads' HO60.out).2.1 | exact Nat.le_trans (Nat.le_of_eq (Kd.S_reads' HO60.out).1.symm) (Kd.S_reads' HO60.out).2.1)
  rintro e w1078 ⟨rfl, hb⟩
  refine ⟨_, rfl, ?_⟩
  have m0_ := Aside0.mk (blk_below (g := gb3) (o := .cells #[.slice A0_0 l0_0.length c0_0] 24 (0, 0)) (by ((with_reducible repeat (first | refine blk_drewN ?_ _ | refine blk_drew ?_ | refine blk_alloc ?_ _)); exact BK3.out)) hb)
  have m1_ := Aside0.mk (blk_below (g := gb5) (o := .cells #[.slice A2_0 l2_0.length c2_0] 24 (0, 0)) (by ((with_reducible repeat (first | refine blk_drewN ?_ _ | refine blk_drew ?_ | refine blk_alloc ?_ _)); exact BK5.out)) hb)
  have m2_ := Aside0.mk (blk_below (g := gb10) (o := .cells #[.slice Ao32 t13.length co32] 31 (0, 0)) (by ((with_reducible repeat (first | refine blk_drewN ?_ _ | refine blk_drew ?_ | refine blk_alloc ?_ _)); exact BK10.out)) hb)
  have m3_ := Aside0.mk (blk_below (g := gb12) (o := .cells #[.slice Ao41 t21.length co41] 31 (0, 0)) (by ((with_reducible repeat (first | refine blk_drewN ?_ _ | refine blk_drew ?_ | refine blk_alloc ?_ _)); exact BK12.out)) hb)
  have m4_ := Aside0.mk (Kd.S_below (by ((with_reducible repeat (first | apply Kd.S_alloc | apply Kd.S_drewN | apply Kd.S_drew)); exact HO15.out)) hb)
  have m5_ := Aside0.mk (Kd.R_below (by ((with_reducible repeat (first | apply Kd.R_alloc | apply Kd.R_drewN | apply Kd.R_drew)); exact HO19.out)) hb)
  have m6_ := Aside0.mk (Kd.S_below (by ((with_reducible repeat (first | apply Kd.S_alloc | apply Kd.S_drewN | apply Kd.S_drew)); exact HO23.out)) hb)
  have m7_ := Aside0.mk (Kd.R_below (by ((with_reducible repeat (first | apply Kd.R_alloc | apply Kd.R_drewN | apply Kd.R_drew)); exact HO28.out)) hb)
  have m8_ := Aside0.mk (Kd.S_below (by ((with_reducible repeat (first | apply Kd.S_alloc | apply Kd.S_drewN | apply Kd.S_drew)); exact HO32.out)) hb)
  have m9_ := Aside0.mk (Kd.R_below (by ((with_reducible repeat (first | apply Kd.R_alloc | apply Kd.R_drewN | apply Kd.R_drew)); exact HO37.out)) hb)
  have m10_ := Aside0.mk (Kd.S_below (by ((with_reducible repeat (first | apply Kd.S_alloc | apply Kd.S_drewN | apply Kd.S_drew)); exact HO41.out)) hb)
  have m11_ := Aside0.mk (Kd.R_below (by ((with_reducible repeat (first | apply Kd.R_alloc | apply Kd.R_drewN | apply Kd.R_drew)); exact HO46.out)) hb)
  have m12_ := Aside0.mk (Kd.S_below (by ((with_reducible repeat (first | apply Kd.S_alloc | apply Kd.S_drewN | apply Kd.S_drew)); exact HO51.out)) hb)
  have m13_ := Aside0.mk (Kd.R_below (by ((with_reducible repeat (first | apply Kd.R_alloc | apply Kd.R_drewN | apply Kd.R_drew)); exact HO55.out)) hb)
  have m14_ := Aside0.mk (Kd.S_below (by ((with_reducible repeat (first | apply Kd.S_alloc | apply Kd.S_drewN | apply Kd.S_drew)); exact HO60.out)) hb)
  have mB_ := Aside0.mk (below_step (by (repeat (first | (with_reducible first | exact HB.out | apply below_alloc | apply pw_below_drewN | apply below_drew1 | refine below_set ?_ GE3.out | refine below_set ?_ GE5.out | refine below_set ?_ GE10.out | refine below_set ?_ GE12.out) | exact HB.out))) hb)
  have mL_ := Aside0.mk (by (repeat (first | exact HZ.out | (with_reducible first | apply sz_alloc | apply sz_drewN | apply sz_drew | apply sz_set))) : n21 ≤ _)
  obtain ⟨n22, hn_⟩ : ∃ n_, n_ = w1078.heap.size := ⟨_, rfl⟩
  have mN_ := Aside0.mk (by rw [hn_]; exact Nat.le_trans mL_.out hb.size : n21 ≤ n22)
  have mZ_ := Aside0.mk (Nat.le_of_eq hn_ : n22 ≤ w1078.heap.size)
  clear BK3 BK5 BK10 BK12 HO15 HO19 HO23 HO28 HO32 HO37 HO41 HO46 HO51 HO55 HO60 HB HZ
  have BK3 := m0_
  have BK5 := m1_
  have BK10 := m2_
  have BK12 := m3_
  have HO15 := m4_
  have HO19 := m5_
  have HO23 := m6_
  have HO28 := m7_
  have HO32 := m8_
  have HO37 := m9_
  have HO41 := m10_
  have HO46 := m11_
  have HO51 := m12_
  have HO55 := m13_
  have HO60 := m14_
  have HB := mB_
  have HZ := mZ_
  have HN22 := mN_
  clear m0_ m1_ m2_ m3_ m4_ m5_ m6_ m7_ m8_ m9_ m10_ m11_ m12_ m13_ m14_ mB_ mN_ mZ_ mL_
  (try clear hn_)
  clear hb
  refine hK.out _ _ ⟨(blk_cell BK12.out 0).trans rfl, (blk_cell BK5.out 0).trans rfl⟩ (fun hHeld => ?_)
  clear hK K
  refine norm_ (a' := ?_) ?_ ?_
  rotate_left
  · show Act.put _ (some 80) _ = _
    simp only [Act.put, List.setIfInBounds_toArray, List.set_cons_zero, List.set_cons_succ, i64_w, i32_w]
    rfl
  refine pure_ (i := 4) (N := some 81) (v := ?_) (a' := ?_) #[true, true, true, true, true] rfl rfl (by kernel_rfl) (fun _ _ _ h => h) (Or.inl ⟨by rfl, ?_⟩) ?_ ?_
  rotate_left
  · intro w'
    go_simp
    with_reducible rfl
  rotate_left
  · simp only [Act.put, List.setIfInBounds_toArray, List.set_cons_zero, List.set_cons_succ, i64_w, i32_w]
    rfl
  refine done_ (by kernel_rfl) ?_
  have hc62_0 := (blk_cell BK10.out 0).trans (show (#[.slice Ao32 t13.length co32] : Array Value)[0]? = some (.slice Ao32 t13.length co32) from rfl)
  have hf62_0 := blk_frozen BK10.out 0
  go_upto_region 38 with (first | ((with_reducible refine gate_callee (f := 19) rfl ?_); refine goesL_ (some 84) rfl rfl Try.func19 (by kernel_rfl) rfl #[.agg #[.slice Ao32 t13.length co32], .int .i64 1] rfl (by (try simp only [List.map_toArray, List.map_cons, List.map_nil]); first | done | rfl) ?_; (with_reducible refine (laws_markMemory.calls k (fun k_ => n9 ≤ k_ ∧ k_ < n10) _ t13 1 m63 y64 w _ ?sideB ?sideO E19.out).mono ?_); (case sideB => exact (by (repeat (first | (with_reducible first | exact HB.out | apply below_alloc | apply pw_below_drewN | apply below_drew1 | refine below_set ?_ GE3.out | refine below_set ?_ GE5.out | refine below_set ?_ GE10.out | refine below_set ?_ GE12.out) | exact HB.out)))); (case sideO => exact (by ((with_reducible repeat (first | apply Kd.S_alloc | apply Kd.S_drewN | apply Kd.S_drew)); exact HO32.out))); rintro e w1083 ⟨rfl, ho_, hb2_, hk⟩; refine ⟨_, rfl, ?_⟩; have m0_ := Aside0.mk (blk_kept (g := gb3) (o := .cells #[.slice A0_0 l0_0.length c0_0] 24 (0, 0)) (by ((with_reducible repeat (first | refine blk_drewN ?_ _ | refine blk_drew ?_ | refine blk_alloc ?_ _)); exact BK3.out)) hk (fun h_ => by have h1_ := HI3.out; have q1_ := HN1.out; have q2_ := HN2.out; have q3_ := HN3.out; have q4_ := HN4.out; have q5_ := HN5.out; have q6_ := HN6.out; have q7_ := HN7.out; have q8_ := HN8.out; have q9_ := HN9.out; have q10_ := HN10.out; have q11_ := HN11.out; have q12_ := HN12.out; have q13_ := HN13.out; have q14_ := HN14.out; have q15_ := HN15.out; have q16_ := HN16.out; have q17_ := HN17.out; have q18_ := HN18.out; have q19_ := HN19.out; have q20_ := HN20.out; have q21_ := HN21.out; have q22_ := HN22.out; omega)); have m1_ := Aside0.mk (blk_kept (g := gb5) (o := .cells #[.slice A2_0 l2_0.length c2_0] 24 (0, 0)) (by ((with_reducible repeat (first | refine blk_drewN ?_ _ | refine blk_drew ?_ | refine blk_alloc ?_ _)); exact BK5.out)) hk (fun h_ => by have h1_ := HI5.out; have q1_ := HN1.out; have q2_ := HN2.out; have q3_ := HN3.out; have q4_ := HN4.out; have q5_ := HN5.out; have q6_ := HN6.out; have q7_ := HN7.out; have q8_ := HN8.out; have q9_ := HN9.out; have q10_ := HN10.out; have q11_ := HN11.out; have q12_ := HN12.out; have q13_ := HN13.out; have q14_ := HN14.out; have q15_ := HN15.out; have q16_ := HN16.out; have q17_ := HN17.out; have q18_ := HN18.out; have q19_ := HN19.out; have q20_ := HN20.out; have q21_ := HN21.out; have q22_ := HN22.out; omega)); have m2_ := Aside0.mk (blk_kept (g := gb10) (o := .cells #[.slice Ao32 t13.length co32] 31 (0, 0)) (by ((with_reducible repeat (first | refine blk_drewN ?_ _ | refine blk_drew ?_ | refine blk_alloc ?_ _)); exact BK10.out)) hk (fun h_ => by have h1_ := HI10.out; have q1_ := HN1.out; have q2_ := HN2.out; have q3_ := HN3.out; have q4_ := HN4.out; have q5_ := HN5.out; have q6_ := HN6.out; have q7_ := HN7.out; have q8_ := HN8.out; have q9_ := HN9.out; have q10_ := HN10.out; have q11_ := HN11.out; have q12_ := HN12.out; have q13_ := HN13.out; have q14_ := HN14.out; have q15_ := HN15.out; have q16_ := HN16.out; have q17_ := HN17.out; have q18_ := HN18.out; have q19_ := HN19.out; have q20_ := HN20.out; have q21_ := HN21.out; have q22_ := HN22.out; omega)); have m3_ := Aside0.mk (blk_kept (g := gb12) (o := .cells #[.slice Ao41 t21.length co41] 31 (0, 0)) (by ((with_reducible repeat (first | refine blk_drewN ?_ _ | refine blk_drew ?_ | refine blk_alloc ?_ _)); exact BK12.out)) hk (fun h_ => by have h1_ := HI12.out; have q1_ := HN1.out; have q2_ := HN2.out; have q3_ := HN3.out; have q4_ := HN4.out; have q5_ := HN5.out; have q6_ := HN6.out; have q7_ := HN7.out; have q8_ := HN8.out; have q9_ := HN9.out; have q10_ := HN10.out; have q11_ := HN11.out; have q12_ := HN12.out; have q13_ := HN13.out; have q14_ := HN14.out; have q15_ := HN15.out; have q16_ := HN16.out; have q17_ := HN17.out; have q18_ := HN18.out; have q19_ := HN19.out; have q20_ := HN20.out; have q21_ := HN21.out; have q22_ := HN22.out; omega)); have m4_ := Aside0.mk (Kd.S_kept (by ((with_reducible repeat (first | apply Kd.S_alloc | apply Kd.S_drewN | apply Kd.S_drew)); exact HO15.out)) hk (fun k_ h1_ h2_ => by have q1_ := HN1.out; have q2_ := HN2.out; have q3_ := HN3.out; have q4_ := HN4.out; have q5_ := HN5.out; have q6_ := HN6.out; have q7_ := HN7.out; have q8_ := HN8.out; have q9_ := HN9.out; have q10_ := HN10.out; have q11_ := HN11.out; have q12_ := HN12.out; have q13_ := HN13.out; have q14_ := HN14.out; have q15_ := HN15.out; have q16_ := HN16.out; have q17_ := HN17.out; have q18_ := HN18.out; have q19_ := HN19.out; have q20_ := HN20.out; have q21_ := HN21.out; have q22_ := HN22.out; omega)); have m5_ := Aside0.mk (Kd.R_kept (by ((with_reducible repeat (first | apply Kd.R_alloc | apply Kd.R_drewN | apply Kd.R_drew)); exact HO19.out)) hk (fun k_ h1_ h2_ => by have q1_ := HN1.out; have q2_ := HN2.out; have q3_ := HN3.out; have q4_ := HN4.out; have q5_ := HN5.out; have q6_ := HN6.out; have q7_ := HN7.out; have q8_ := HN8.out; have q9_ := HN9.out; have q10_ := HN10.out; have q11_ := HN11.out; have q12_ := HN12.out; have q13_ := HN13.out; have q14_ := HN14.out; have q15_ := HN15.out; have q16_ := HN16.out; have q17_ := HN17.out; have q18_ := HN18.out; have q19_ := HN19.out; have q20_ := HN20.out; have q21_ := HN21.out; have q22_ := HN22.out; omega)); have m6_ := Aside0.mk (Kd.S_kept (by ((with_reducible repeat (first | apply Kd.S_alloc | apply Kd.S_drewN | apply Kd.S_drew)); exact HO23.out)) hk (fun k_ h1_ h2_ => by have q1_ := HN1.out; have q2_ := HN2.out; have q3_ := HN3.out; have q4_ := HN4.out; have q5_ := HN5.out; have q6_ := HN6.out; have q7_ := HN7.out; have q8_ := HN8.out; have q9_ := HN9.out; have q10_ := HN10.out; have q11_ := HN11.out; have q12_ := HN12.out; have q13_ := HN13.out; have q14_ := HN14.out; have q15_ := HN15.out; have q16_ := HN16.out; have q17_ := HN17.out; have q18_ := HN18.out; have q19_ := HN19.out; have q20_ := HN20.out; have q21_ := HN21.out; have q22_ := HN22.out; omega)); have m7_ := Aside0.mk (Kd.R_kept (by ((with_reducible repeat (first | apply Kd.R_alloc | apply Kd.R_drewN | apply Kd.R_drew)); exact HO28.out)) hk (fun k_ h1_ h2_ => by have q1_ := HN1.out; have q2_ := HN2.out; have q3_ := HN3.out; have q4_ := HN4.out; have q5_ := HN5.out; have q6_ := HN6.out; have q7_ := HN7.out; have q8_ := HN8.out; have q9_ := HN9.out; have q10_ := HN10.out; have q11_ := HN11.out; have q12_ := HN12.out; have q13_ := HN13.out; have q14_ := HN14.out; have q15_ := HN15.out; have q16_ := HN16.out; have q17_ := HN17.out; have q18_ := HN18.out; have q19_ := HN19.out; have q20_ := HN20.out; have q21_ := HN21.out; have q22_ := HN22.out; omega)); have m8_ := Aside0.mk (Kd.R_kept (by ((with_reducible repeat (first | apply Kd.R_alloc | apply Kd.R_drewN | apply Kd.R_drew)); exact HO37.out)) hk (fun k_ h1_ h2_ => by have q1_ := HN1.out; have q2_ := HN2.out; have q3_ := HN3.out; have q4_ := HN4.out; have q5_ := HN5.out; have q6_ := HN6.out; have q7_ := HN7.out; have q8_ := HN8.out; have q9_ := HN9.out; have q10_ := HN10.out; have q11_ := HN11.out; have q12_ := HN12.out; have q13_ := HN13.out; have q14_ := HN14.out; have q15_ := HN15.out; have q16_ := HN16.out; have q17_ := HN17.out; have q18_ := HN18.out; have q19_ := HN19.out; have q20_ := HN20.out; have q21_ := HN21.out; have q22_ := HN22.out; omega)); have m9_ := Aside0.mk (Kd.S_kept (by ((with_reducible repeat (first | apply Kd.S_alloc | apply Kd.S_drewN | apply Kd.S_drew)); exact HO41.out)) hk (fun k_ h1_ h2_ => by have q1_ := HN1.out; have q2_ := HN2.out; have q3_ := HN3.out; have q4_ := HN4.out; have q5_ := HN5.out; have q6_ := HN6.out; have q7_ := HN7.out; have q8_ := HN8.out; have q9_ := HN9.out; have q10_ := HN10.out; have q11_ := HN11.out; have q12_ := HN12.out; have q13_ := HN13.out; have q14_ := HN14.out; have q15_ := HN15.out; have q16_ := HN16.out; have q17_ := HN17.out; have q18_ := HN18.out; have q19_ := HN19.out; have q20_ := HN20.out; have q21_ := HN21.out; have q22_ := HN22.out; omega)); have m10_ := Aside0.mk (Kd.R_kept (by ((with_reducible repeat (first | apply Kd.R_alloc | apply Kd.R_drewN | apply Kd.R_drew)); exact HO46.out)) hk (fun k_ h1_ h2_ => by have q1_ := HN1.out; have q2_ := HN2.out; have q3_ := HN3.out; have q4_ := HN4.out; have q5_ := HN5.out; have q6_ := HN6.out; have q7_ := HN7.out; have q8_ := HN8.out; have q9_ := HN9.out; have q10_ := HN10.out; have q11_ := HN11.out; have q12_ := HN12.out; have q13_ := HN13.out; have q14_ := HN14.out; have q15_ := HN15.out; have q16_ := HN16.out; have q17_ := HN17.out; have q18_ := HN18.out; have q19_ := HN19.out; have q20_ := HN20.out; have q21_ := HN21.out; have q22_ := HN22.out; omega)); have m11_ := Aside0.mk (Kd.S_kept (by ((with_reducible repeat (first | apply Kd.S_alloc | apply Kd.S_drewN | apply Kd.S_drew)); exact HO51.out)) hk (fun k_ h1_ h2_ => by have q1_ := HN1.out; have q2_ := HN2.out; have q3_ := HN3.out; have q4_ := HN4.out; have q5_ := HN5.out; have q6_ := HN6.out; have q7_ := HN7.out; have q8_ := HN8.out; have q9_ := HN9.out; have q10_ := HN10.out; have q11_ := HN11.out; have q12_ := HN12.out; have q13_ := HN13.out; have q14_ := HN14.out; have q15_ := HN15.out; have q16_ := HN16.out; have q17_ := HN17.out; have q18_ := HN18.out; have q19_ := HN19.out; have q20_ := HN20.out; have q21_ := HN21.out; have q22_ := HN22.out; omega)); have m12_ := Aside0.mk (Kd.R_kept (by ((with_reducible repeat (first | apply Kd.R_alloc | apply Kd.R_drewN | apply Kd.R_drew)); exact HO55.out)) hk (fun k_ h1_ h2_ => by have q1_ := HN1.out; have q2_ := HN2.out; have q3_ := HN3.out; have q4_ := HN4.out; have q5_ := HN5.out; have q6_ := HN6.out; have q7_ := HN7.out; have q8_ := HN8.out; have q9_ := HN9.out; have q10_ := HN10.out; have q11_ := HN11.out; have q12_ := HN12.out; have q13_ := HN13.out; have q14_ := HN14.out; have q15_ := HN15.out; have q16_ := HN16.out; have q17_ := HN17.out; have q18_ := HN18.out; have q19_ := HN19.out; have q20_ := HN20.out; have q21_ := HN21.out; have q22_ := HN22.out; omega)); have m13_ := Aside0.mk (Kd.S_kept (by ((with_reducible repeat (first | apply Kd.S_alloc | apply Kd.S_drewN | apply Kd.S_drew)); exact HO60.out)) hk (fun k_ h1_ h2_ => by have q1_ := HN1.out; have q2_ := HN2.out; have q3_ := HN3.out; have q4_ := HN4.out; have q5_ := HN5.out; have q6_ := HN6.out; have q7_ := HN7.out; have q8_ := HN8.out; have q9_ := HN9.out; have q10_ := HN10.out; have q11_ := HN11.out; have q12_ := HN12.out; have q13_ := HN13.out; have q14_ := HN14.out; have q15_ := HN15.out; have q16_ := HN16.out; have q17_ := HN17.out; have q18_ := HN18.out; have q19_ := HN19.out; have q20_ := HN20.out; have q21_ := HN21.out; have q22_ := HN22.out; omega)); have mO_ := Aside0.mk (show Kd.S (Kd.slice 5 (Kd.int .u8)) 28 w1083 w.heap.size (fun k_ => n9 ≤ k_ ∧ k_ < n10) (.slice Ao32 t13.length co32) y64 from ho_); have mL_ := Aside0.mk (by (repeat (first | exact HZ.out | (with_reducible first | apply sz_alloc | apply sz_drewN | apply sz_drew | apply sz_set))) : n22 ≤ _); have mZ_ := Aside0.mk (Nat.le_trans mL_.out hk.1 : n22 ≤ w1083.heap.size); have mB_ := Aside0.mk hb2_; clear BK3 BK5 BK10 BK12 HO15 HO19 HO23 HO28 HO37 HO41 HO46 HO51 HO55 HO60 HB HZ HO32; have BK3 := m0_; have BK5 := m1_; have BK10 := m2_; have BK12 := m3_; have HO15 := m4_; have HO19 := m5_; have HO23 := m6_; have HO28 := m7_; have HO37 := m8_; have HO41 := m9_; have HO46 := m10_; have HO51 := m11_; have HO55 := m12_; have HO60 := m13_; have HO32 := mO_; have HB := mB_; have HZ := mZ_; clear m0_ m1_ m2_ m3_ m4_ m5_ m6_ m7_ m8_ m9_ m10_ m11_ m12_ m13_ mO_ mB_ mZ_ mL_; clear ho_ hb2_ hk) | ((with_reducible refine gate_callee (f := 30) rfl ?_); refine goesL_ (some 87) rfl rfl Try.func30 (by kernel_rfl) rfl #[.slice Ao37 t17.length co37, .int .i64 m63] rfl (by (try simp only [List.map_toArray, List.map_cons, List.map_nil]); first | done | rfl) ?_; (with_reducible refine (laws_markWindowS.calls k (fun k_ => n11 ≤ k_ ∧ k_ < n12) _ t17 m63 m66 y67 w _ ?sideB ?sideO E20.out).mono ?_); (case sideB => exact (by (repeat (first | (with_reducible first | exact HB.out | apply below_alloc | apply pw_below_drewN | apply below_drew1 | refine below_set ?_ GE3.out | refine below_set ?_ GE5.out | refine below_set ?_ GE10.out | refine below_set ?_ GE12.out) | exact HB.out)))); (case sideO => exact (by ((with_reducible repeat (first | apply Kd.R_alloc | apply Kd.R_drewN | apply Kd.R_drew)); exact HO37.out))); rintro e w1087 ⟨rfl, ho_, hb2_, hk⟩; refine ⟨_, rfl, ?_⟩; have m0_ := Aside0.mk (blk_kept (g := gb3) (o := .cells #[.slice A0_0 l0_0.length c0_0] 24 (0, 0)) (by ((with_reducible repeat (first | refine blk_drewN ?_ _ | refine blk_drew ?_ | refine blk_alloc ?_ _)); exact BK3.out)) hk (fun h_ => by have h1_ := HI3.out; have q1_ := HN1.out; have q2_ := HN2.out; have q3_ := HN3.out; have q4_ := HN4.out; have q5_ := HN5.out; have q6_ := HN6.out; have q7_ := HN7.out; have q8_ := HN8.out; have q9_ := HN9.out; have q10_ := HN10.out; have q11_ := HN11.out; have q12_ := HN12.out; have q13_ := HN13.out; have q14_ := HN14.out; have q15_ := HN15.out; have q16_ := HN16.out; have q17_ := HN17.out; have q18_ := HN18.out; have q19_ := HN19.out; have q20_ := HN20.out; have q21_ := HN21.out; have q22_ := HN22.out; omega)); have m1_ := Aside0.mk (blk_kept (g := gb5) (o := .cells #[.slice A2_0 l2_0.length c2_0] 24 (0, 0)) (by ((with_reducible repeat (first | refine blk_drewN ?_ _ | refine blk_drew ?_ | refine blk_alloc ?_ _)); exact BK5.out)) hk (fun h_ => by have h1_ := HI5.out; have q1_ := HN1.out; have q2_ := HN2.out; have q3_ := HN3.out; have q4_ := HN4.out; have q5_ := HN5.out; have q6_ := HN6.out; have q7_ := HN7.out; have q8_ := HN8.out; have q9_ := HN9.out; have q10_ := HN10.out; have q11_ := HN11.out; have q12_ := HN12.out; have q13_ := HN13.out; have q14_ := HN14.out; have q15_ := HN15.out; have q16_ := HN16.out; have q17_ := HN17.out; have q18_ := HN18.out; have q19_ := HN19.out; have q20_ := HN20.out; have q21_ := HN21.out; have q22_ := HN22.out; omega)); have m2_ := Aside0.mk (blk_kept (g := gb10) (o := .cells #[.slice Ao32 t13.length co32] 31 (0, 0)) (by ((with_reducible repeat (first | refine blk_drewN ?_ _ | refine blk_drew ?_ | refine blk_alloc ?_ _)); exact BK10.out)) hk (fun h_ => by have h1_ := HI10.out; have q1_ := HN1.out; have q2_ := HN2.out; have q3_ := HN3.out; have q4_ := HN4.out; have q5_ := HN5.out; have q6_ := HN6.out; have q7_ := HN7.out; have q8_ := HN8.out; have q9_ := HN9.out; have q10_ := HN10.out; have q11_ := HN11.out; have q12_ := HN12.out; have q13_ := HN13.out; have q14_ := HN14.out; have q15_ := HN15.out; have q16_ := HN16.out; have q17_ := HN17.out; have q18_ := HN18.out; have q19_ := HN19.out; have q20_ := HN20.out; have q21_ := HN21.out; have q22_ := HN22.out; omega)); have m3_ := Aside0.mk (blk_kept (g := gb12) (o := .cells #[.slice Ao41 t21.length co41] 31 (0, 0)) (by ((with_reducible repeat (first | refine blk_drewN ?_ _ | refine blk_drew ?_ | refine blk_alloc ?_ _)); exact BK12.out)) hk (fun h_ => by have h1_ := HI12.out; have q1_ := HN1.out; have q2_ := HN2.out; have q3_ := HN3.out; have q4_ := HN4.out; have q5_ := HN5.out; have q6_ := HN6.out; have q7_ := HN7.out; have q8_ := HN8.out; have q9_ := HN9.out; have q10_ := HN10.out; have q11_ := HN11.out; have q12_ := HN12.out; have q13_ := HN13.out; have q14_ := HN14.out; have q15_ := HN15.out; have q16_ := HN16.out; have q17_ := HN17.out; have q18_ := HN18.out; have q19_ := HN19.out; have q20_ := HN20.out; have q21_ := HN21.out; have q22_ := HN22.out; omega)); have m4_ := Aside0.mk (Kd.S_kept (by ((with_reducible repeat (first | apply Kd.S_alloc | apply Kd.S_drewN | apply Kd.S_drew)); exact HO15.out)) hk (fun k_ h1_ h2_ => by have q1_ := HN1.out; have q2_ := HN2.out; have q3_ := HN3.out; have q4_ := HN4.out; have q5_ := HN5.out; have q6_ := HN6.out; have q7_ := HN7.out; have q8_ := HN8.out; have q9_ := HN9.out; have q10_ := HN10.out; have q11_ := HN11.out; have q12_ := HN12.out; have q13_ := HN13.out; have q14_ := HN14.out; have q15_ := HN15.out; have q16_ := HN16.out; have q17_ := HN17.out; have q18_ := HN18.out; have q19_ := HN19.out; have q20_ := HN20.out; have q21_ := HN21.out; have q22_ := HN22.out; omega)); have m5_ := Aside0.mk (Kd.R_kept (by ((with_reducible repeat (first | apply Kd.R_alloc | apply Kd.R_drewN | apply Kd.R_drew)); exact HO19.out)) hk (fun k_ h1_ h2_ => by have q1_ := HN1.out; have q2_ := HN2.out; have q3_ := HN3.out; have q4_ := HN4.out; have q5_ := HN5.out; have q6_ := HN6.out; have q7_ := HN7.out; have q8_ := HN8.out; have q9_ := HN9.out; have q10_ := HN10.out; have q11_ := HN11.out; have q12_ := HN12.out; have q13_ := HN13.out; have q14_ := HN14.out; have q15_ := HN15.out; have q16_ := HN16.out; have q17_ := HN17.out; have q18_ := HN18.out; have q19_ := HN19.out; have q20_ := HN20.out; have q21_ := HN21.out; have q22_ := HN22.out; omega)); have m6_ := Aside0.mk (Kd.S_kept (by ((with_reducible repeat (first | apply Kd.S_alloc | apply Kd.S_drewN | apply Kd.S_drew)); exact HO23.out)) hk (fun k_ h1_ h2_ => by have q1_ := HN1.out; have q2_ := HN2.out; have q3_ := HN3.out; have q4_ := HN4.out; have q5_ := HN5.out; have q6_ := HN6.out; have q7_ := HN7.out; have q8_ := HN8.out; have q9_ := HN9.out; have q10_ := HN10.out; have q11_ := HN11.out; have q12_ := HN12.out; have q13_ := HN13.out; have q14_ := HN14.out; have q15_ := HN15.out; have q16_ := HN16.out; have q17_ := HN17.out; have q18_ := HN18.out; have q19_ := HN19.out; have q20_ := HN20.out; have q21_ := HN21.out; have q22_ := HN22.out; omega)); have m7_ := Aside0.mk (Kd.R_kept (by ((with_reducible repeat (first | apply Kd.R_alloc | apply Kd.R_drewN | apply Kd.R_drew)); exact HO28.out)) hk (fun k_ h1_ h2_ => by have q1_ := HN1.out; have q2_ := HN2.out; have q3_ := HN3.out; have q4_ := HN4.out; have q5_ := HN5.out; have q6_ := HN6.out; have q7_ := HN7.out; have q8_ := HN8.out; have q9_ := HN9.out; have q10_ := HN10.out; have q11_ := HN11.out; have q12_ := HN12.out; have q13_ := HN13.out; have q14_ := HN14.out; have q15_ := HN15.out; have q16_ := HN16.out; have q17_ := HN17.out; have q18_ := HN18.out; have q19_ := HN19.out; have q20_ := HN20.out; have q21_ := HN21.out; have q22_ := HN22.out; omega)); have m8_ := Aside0.mk (Kd.S_kept (by ((with_reducible repeat (first | apply Kd.S_alloc | apply Kd.S_drewN | apply Kd.S_drew)); exact HO32.out)) hk (fun k_ h1_ h2_ => by have q1_ := HN1.out; have q2_ := HN2.out; have q3_ := HN3.out; have q4_ := HN4.out; have q5_ := HN5.out; have q6_ := HN6.out; have q7_ := HN7.out; have q8_ := HN8.out; have q9_ := HN9.out; have q10_ := HN10.out; have q11_ := HN11.out; have q12_ := HN12.out; have q13_ := HN13.out; have q14_ := HN14.out; have q15_ := HN15.out; have q16_ := HN16.out; have q17_ := HN17.out; have q18_ := HN18.out; have q19_ := HN19.out; have q20_ := HN20.out; have q21_ := HN21.out; have q22_ := HN22.out; omega)); have m9_ := Aside0.mk (Kd.S_kept (by ((with_reducible repeat (first | apply Kd.S_alloc | apply Kd.S_drewN | apply Kd.S_drew)); exact HO41.out)) hk (fun k_ h1_ h2_ => by have q1_ := HN1.out; have q2_ := HN2.out; have q3_ := HN3.out; have q4_ := HN4.out; have q5_ := HN5.out; have q6_ := HN6.out; have q7_ := HN7.out; have q8_ := HN8.out; have q9_ := HN9.out; have q10_ := HN10.out; have q11_ := HN11.out; have q12_ := HN12.out; have q13_ := HN13.out; have q14_ := HN14.out; have q15_ := HN15.out; have q16_ := HN16.out; have q17_ := HN17.out; have q18_ := HN18.out; have q19_ := HN19.out; have q20_ := HN20.out; have q21_ := HN21.out; have q22_ := HN22.out; omega)); have m10_ := Aside0.mk (Kd.R_kept (by ((with_reducible repeat (first | apply Kd.R_alloc | apply Kd.R_drewN | apply Kd.R_drew)); exact HO46.out)) hk (fun k_ h1_ h2_ => by have q1_ := HN1.out; have q2_ := HN2.out; have q3_ := HN3.out; have q4_ := HN4.out; have q5_ := HN5.out; have q6_ := HN6.out; have q7_ := HN7.out; have q8_ := HN8.out; have q9_ := HN9.out; have q10_ := HN10.out; have q11_ := HN11.out; have q12_ := HN12.out; have q13_ := HN13.out; have q14_ := HN14.out; have q15_ := HN15.out; have q16_ := HN16.out; have q17_ := HN17.out; have q18_ := HN18.out; have q19_ := HN19.out; have q20_ := HN20.out; have q21_ := HN21.out; have q22_ := HN22.out; omega)); have m11_ := Aside0.mk (Kd.S_kept (by ((with_reducible repeat (first | apply Kd.S_alloc | apply Kd.S_drewN | apply Kd.S_drew)); exact HO51.out)) hk (fun k_ h1_ h2_ => by have q1_ := HN1.out; have q2_ := HN2.out; have q3_ := HN3.out; have q4_ := HN4.out; have q5_ := HN5.out; have q6_ := HN6.out; have q7_ := HN7.out; have q8_ := HN8.out; have q9_ := HN9.out; have q10_ := HN10.out; have q11_ := HN11.out; have q12_ := HN12.out; have q13_ := HN13.out; have q14_ := HN14.out; have q15_ := HN15.out; have q16_ := HN16.out; have q17_ := HN17.out; have q18_ := HN18.out; have q19_ := HN19.out; have q20_ := HN20.out; have q21_ := HN21.out; have q22_ := HN22.out; omega)); have m12_ := Aside0.mk (Kd.R_kept (by ((with_reducible repeat (first | apply Kd.R_alloc | apply Kd.R_drewN | apply Kd.R_drew)); exact HO55.out)) hk (fun k_ h1_ h2_ => by have q1_ := HN1.out; have q2_ := HN2.out; have q3_ := HN3.out; have q4_ := HN4.out; have q5_ := HN5.out; have q6_ := HN6.out; have q7_ := HN7.out; have q8_ := HN8.out; have q9_ := HN9.out; have q10_ := HN10.out; have q11_ := HN11.out; have q12_ := HN12.out; have q13_ := HN13.out; have q14_ := HN14.out; have q15_ := HN15.out; have q16_ := HN16.out; have q17_ := HN17.out; have q18_ := HN18.out; have q19_ := HN19.out; have q20_ := HN20.out; have q21_ := HN21.out; have q22_ := HN22.out; omega)); have m13_ := Aside0.mk (Kd.S_kept (by ((with_reducible repeat (first | apply Kd.S_alloc | apply Kd.S_drewN | apply Kd.S_drew)); exact HO60.out)) hk (fun k_ h1_ h2_ => by have q1_ := HN1.out; have q2_ := HN2.out; have q3_ := HN3.out; have q4_ := HN4.out; have q5_ := HN5.out; have q6_ := HN6.out; have q7_ := HN7.out; have q8_ := HN8.out; have q9_ := HN9.out; have q10_ := HN10.out; have q11_ := HN11.out; have q12_ := HN12.out; have q13_ := HN13.out; have q14_ := HN14.out; have q15_ := HN15.out; have q16_ := HN16.out; have q17_ := HN17.out; have q18_ := HN18.out; have q19_ := HN19.out; have q20_ := HN20.out; have q21_ := HN21.out; have q22_ := HN22.out; omega)); have mO_ := Aside0.mk (show Kd.R k33 33 w1087 w.heap.size (fun k_ => n11 ≤ k_ ∧ k_ < n12) (.slice Ao37 t17.length co37) y67 from Kd.R_mono (Kd.R_tight rfl ho_) (fun k_ hk_ => HO37.out.1 k_ hk_.symm)); have mL_ := Aside0.mk (by (repeat (first | exact HZ.out | (with_reducible first | apply sz_alloc | apply sz_drewN | apply sz_drew | apply sz_set))) : n22 ≤ _); have mZ_ := Aside0.mk (Nat.le_trans mL_.out hk.1 : n22 ≤ w1087.heap.size); have mB_ := Aside0.mk hb2_; clear BK3 BK5 BK10 BK12 HO15 HO19 HO23 HO28 HO32 HO41 HO46 HO51 HO55 HO60 HB HZ HO37; have BK3 := m0_; have BK5 := m1_; have BK10 := m2_; have BK12 := m3_; have HO15 := m4_; have HO19 := m5_; have HO23 := m6_; have HO28 := m7_; have HO32 := m8_; have HO41 := m9_; have HO46 := m10_; have HO51 := m11_; have HO55 := m12_; have HO60 := m13_; have HO37 := mO_; have HB := mB_; have HZ := mZ_; clear m0_ m1_ m2_ m3_ m4_ m5_ m6_ m7_ m8_ m9_ m10_ m11_ m12_ m13_ mO_ mB_ mZ_ mL_; clear ho_ hb2_ hk; have hc69_0 := (blk_cell BK12.out 0).trans (show (#[.slice Ao41 t21.length co41] : Array Value)[0]? = some (.slice Ao41 t21.length co41) from rfl); have hf69_0 := blk_frozen BK12.out 0) | ((with_reducible refine gate_callee (f := 19) rfl ?_); refine goesL_ (some 90) rfl rfl Try.func19 (by kernel_rfl) rfl #[.agg #[.slice Ao41 t21.length co41], .int .i64 m66] rfl (by (try simp only [List.map_toArray, List.map_cons, List.map_nil]); first | done | rfl) ?_; (with_reducible refine (laws_markMemory.calls k (fun k_ => n12 ≤ k_ ∧ k_ < n13) _ t21 m66 m70 y71 w _ ?sideB ?sideO E21.out).mono ?_); (case sideB => exact (by (repeat (first | (with_reducible first | exact HB.out | apply below_alloc | apply pw_below_drewN | apply below_drew1 | refine below_set ?_ GE3.out | refine below_set ?_ GE5.out | refine below_set ?_ GE10.out | refine below_set ?_ GE12.out) | exact HB.out)))); (case sideO => exact (by ((with_reducible repeat (first | apply Kd.S_alloc | apply Kd.S_drewN | apply Kd.S_drew)); exact HO41.out))); rintro e w1092 ⟨rfl, ho_, hb2_, hk⟩; refine ⟨_, rfl, ?_⟩; have m0_ := Aside0.mk (blk_kept (g := gb3) (o := .cells #[.slice A0_0 l0_0.length c0_0] 24 (0, 0)) (by ((with_reducible repeat (first | refine blk_drewN ?_ _ | refine blk_drew ?_ | refine blk_alloc ?_ _)); exact BK3.out)) hk (fun h_ => by have h1_ := HI3.out; have q1_ := HN1.out; have q2_ := HN2.out; have q3_ := HN3.out; have q4_ := HN4.out; have q5_ := HN5.out; have q6_ := HN6.out; have q7_ := HN7.out; have q8_ := HN8.out; have q9_ := HN9.out; have q10_ := HN10.out; have q11_ := HN11.out; have q12_ := HN12.out; have q13_ := HN13.out; have q14_ := HN14.out; have q15_ := HN15.out; have q16_ := HN16.out; have q17_ := HN17.out; have q18_ := HN18.out; have q19_ := HN19.out; have q20_ := HN20.out; have q21_ := HN21.out; have q22_ := HN22.out; omega)); have m1_ := Aside0.mk (blk_kept (g := gb5) (o := .cells #[.slice A2_0 l2_0.length c2_0] 24 (0, 0)) (by ((with_reducible repeat (first | refine blk_drewN ?_ _ | refine blk_drew ?_ | refine blk_alloc ?_ _)); exact BK5.out)) hk (fun h_ => by have h1_ := HI5.out; have q1_ := HN1.out; have q2_ := HN2.out; have q3_ := HN3.out; have q4_ := HN4.out; have q5_ := HN5.out; have q6_ := HN6.out; have q7_ := HN7.out; have q8_ := HN8.out; have q9_ := HN9.out; have q10_ := HN10.out; have q11_ := HN11.out; have q12_ := HN12.out; have q13_ := HN13.out; have q14_ := HN14.out; have q15_ := HN15.out; have q16_ := HN16.out; have q17_ := HN17.out; have q18_ := HN18.out; have q19_ := HN19.out; have q20_ := HN20.out; have q21_ := HN21.out; have q22_ := HN22.out; omega)); have m2_ := Aside0.mk (blk_kept (g := gb10) (o := .cells #[.slice Ao32 t13.length co32] 31 (0, 0)) (by ((with_reducible repeat (first | refine blk_drewN ?_ _ | refine blk_drew ?_ | refine blk_alloc ?_ _)); exact BK10.out)) hk (fun h_ => by have h1_ := HI10.out; have q1_ := HN1.out; have q2_ := HN2.out; have q3_ := HN3.out; have q4_ := HN4.out; have q5_ := HN5.out; have q6_ := HN6.out; have q7_ := HN7.out; have q8_ := HN8.out; have q9_ := HN9.out; have q10_ := HN10.out; have q11_ := HN11.out; have q12_ := HN12.out; have q13_ := HN13.out; have q14_ := HN14.out; have q15_ := HN15.out; have q16_ := HN16.out; have q17_ := HN17.out; have q18_ := HN18.out; have q19_ := HN19.out; have q20_ := HN20.out; have q21_ := HN21.out; have q22_ := HN22.out; omega)); have m3_ := Aside0.mk (blk_kept (g := gb12) (o := .cells #[.slice Ao41 t21.length co41] 31 (0, 0)) (by ((with_reducible repeat (first | refine blk_drewN ?_ _ | refine blk_drew ?_ | refine blk_alloc ?_ _)); exact BK12.out)) hk (fun h_ => by have h1_ := HI12.out; have q1_ := HN1.out; have q2_ := HN2.out; have q3_ := HN3.out; have q4_ := HN4.out; have q5_ := HN5.out; have q6_ := HN6.out; have q7_ := HN7.out; have q8_ := HN8.out; have q9_ := HN9.out; have q10_ := HN10.out; have q11_ := HN11.out; have q12_ := HN12.out; have q13_ := HN13.out; have q14_ := HN14.out; have q15_ := HN15.out; have q16_ := HN16.out; have q17_ := HN17.out; have q18_ := HN18.out; have q19_ := HN19.out; have q20_ := HN20.out; have q21_ := HN21.out; have q22_ := HN22.out; omega)); have m4_ := Aside0.mk (Kd.S_kept (by ((with_reducible repeat (first | apply Kd.S_alloc | apply Kd.S_drewN | apply Kd.S_drew)); exact HO15.out)) hk (fun k_ h1_ h2_ => by have q1_ := HN1.out; have q2_ := HN2.out; have q3_ := HN3.out; have q4_ := HN4.out; have q5_ := HN5.out; have q6_ := HN6.out; have q7_ := HN7.out; have q8_ := HN8.out; have q9_ := HN9.out; have q10_ := HN10.out; have q11_ := HN11.out; have q12_ := HN12.out; have q13_ := HN13.out; have q14_ := HN14.out; have q15_ := HN15.out; have q16_ := HN16.out; have q17_ := HN17.out; have q18_ := HN18.out; have q19_ := HN19.out; have q20_ := HN20.out; have q21_ := HN21.out; have q22_ := HN22.out; omega)); have m5_ := Aside0.mk (Kd.R_kept (by ((with_reducible repeat (first | apply Kd.R_alloc | apply Kd.R_drewN | apply Kd.R_drew)); exact HO19.out)) hk (fun k_ h1_ h2_ => by have q1_ := HN1.out; have q2_ := HN2.out; have q3_ := HN3.out; have q4_ := HN4.out; have q5_ := HN5.out; have q6_ := HN6.out; have q7_ := HN7.out; have q8_ := HN8.out; have q9_ := HN9.out; have q10_ := HN10.out; have q11_ := HN11.out; have q12_ := HN12.out; have q13_ := HN13.out; have q14_ := HN14.out; have q15_ := HN15.out; have q16_ := HN16.out; have q17_ := HN17.out; have q18_ := HN18.out; have q19_ := HN19.out; have q20_ := HN20.out; have q21_ := HN21.out; have q22_ := HN22.out; omega)); have m6_ := Aside0.mk (Kd.S_kept (by ((with_reducible repeat (first | apply Kd.S_alloc | apply Kd.S_drewN | apply Kd.S_drew)); exact HO23.out)) hk (fun k_ h1_ h2_ => by have q1_ := HN1.out; have q2_ := HN2.out; have q3_ := HN3.out; have q4_ := HN4.out; have q5_ := HN5.out; have q6_ := HN6.out; have q7_ := HN7.out; have q8_ := HN8.out; have q9_ := HN9.out; have q10_ := HN10.out; have q11_ := HN11.out; have q12_ := HN12.out; have q13_ := HN13.out; have q14_ := HN14.out; have q15_ := HN15.out; have q16_ := HN16.out; have q17_ := HN17.out; have q18_ := HN18.out; have q19_ := HN19.out; have q20_ := HN20.out; have q21_ := HN21.out; have q22_ := HN22.out; omega)); have m7_ := Aside0.mk (Kd.R_kept (by ((with_reducible repeat (first | apply Kd.R_alloc | apply Kd.R_drewN | apply Kd.R_drew)); exact HO28.out)) hk (fun k_ h1_ h2_ => by have q1_ := HN1.out; have q2_ := HN2.out; have q3_ := HN3.out; have q4_ := HN4.out; have q5_ := HN5.out; have q6_ := HN6.out; have q7_ := HN7.out; have q8_ := HN8.out; have q9_ := HN9.out; have q10_ := HN10.out; have q11_ := HN11.out; have q12_ := HN12.out; have q13_ := HN13.out; have q14_ := HN14.out; have q15_ := HN15.out; have q16_ := HN16.out; have q17_ := HN17.out; have q18_ := HN18.out; have q19_ := HN19.out; have q20_ := HN20.out; have q21_ := HN21.out; have q22_ := HN22.out; omega)); have m8_ := Aside0.mk (Kd.S_kept (by ((with_reducible repeat (first | apply Kd.S_alloc | apply Kd.S_drewN | apply Kd.S_drew)); exact HO32.out)) hk (fun k_ h1_ h2_ => by have q1_ := HN1.out; have q2_ := HN2.out; have q3_ := HN3.out; have q4_ := HN4.out; have q5_ := HN5.out; have q6_ := HN6.out; have q7_ := HN7.out; have q8_ := HN8.out; have q9_ := HN9.out; have q10_ := HN10.out; have q11_ := HN11.out; have q12_ := HN12.out; have q13_ := HN13.out; have q14_ := HN14.out; have q15_ := HN15.out; have q16_ := HN16.out; have q17_ := HN17.out; have q18_ := HN18.out; have q19_ := HN19.out; have q20_ := HN20.out; have q21_ := HN21.out; have q22_ := HN22.out; omega)); have m9_ := Aside0.mk (Kd.R_kept (by ((with_reducible repeat (first | apply Kd.R_alloc | apply Kd.R_drewN | apply Kd.R_drew)); exact HO37.out)) hk (fun k_ h1_ h2_ => by have q1_ := HN1.out; have q2_ := HN2.out; have q3_ := HN3.out; have q4_ := HN4.out; have q5_ := HN5.out; have q6_ := HN6.out; have q7_ := HN7.out; have q8_ := HN8.out; have q9_ := HN9.out; have q10_ := HN10.out; have q11_ := HN11.out; have q12_ := HN12.out; have q13_ := HN13.out; have q14_ := HN14.out; have q15_ := HN15.out; have q16_ := HN16.out; have q17_ := HN17.out; have q18_ := HN18.out; have q19_ := HN19.out; have q20_ := HN20.out; have q21_ := HN21.out; have q22_ := HN22.out; omega)); have m10_ := Aside0.mk (Kd.R_kept (by ((with_reducible repeat (first | apply Kd.R_alloc | apply Kd.R_drewN | apply Kd.R_drew)); exact HO46.out)) hk (fun k_ h1_ h2_ => by have q1_ := HN1.out; have q2_ := HN2.out; have q3_ := HN3.out; have q4_ := HN4.out; have q5_ := HN5.out; have q6_ := HN6.out; have q7_ := HN7.out; have q8_ := HN8.out; have q9_ := HN9.out; have q10_ := HN10.out; have q11_ := HN11.out; have q12_ := HN12.out; have q13_ := HN13.out; have q14_ := HN14.out; have q15_ := HN15.out; have q16_ := HN16.out; have q17_ := HN17.out; have q18_ := HN18.out; have q19_ := HN19.out; have q20_ := HN20.out; have q21_ := HN21.out; have q22_ := HN22.out; omega)); have m11_ := Aside0.mk (Kd.S_kept (by ((with_reducible repeat (first | apply Kd.S_alloc | apply Kd.S_drewN | apply Kd.S_drew)); exact HO51.out)) hk (fun k_ h1_ h2_ => by have q1_ := HN1.out; have q2_ := HN2.out; have q3_ := HN3.out; have q4_ := HN4.out; have q5_ := HN5.out; have q6_ := HN6.out; have q7_ := HN7.out; have q8_ := HN8.out; have q9_ := HN9.out; have q10_ := HN10.out; have q11_ := HN11.out; have q12_ := HN12.out; have q13_ := HN13.out; have q14_ := HN14.out; have q15_ := HN15.out; have q16_ := HN16.out; have q17_ := HN17.out; have q18_ := HN18.out; have q19_ := HN19.out; have q20_ := HN20.out; have q21_ := HN21.out; have q22_ := HN22.out; omega)); have m12_ := Aside0.mk (Kd.R_kept (by ((with_reducible repeat (first | apply Kd.R_alloc | apply Kd.R_drewN | apply Kd.R_drew)); exact HO55.out)) hk (fun k_ h1_ h2_ => by have q1_ := HN1.out; have q2_ := HN2.out; have q3_ := HN3.out; have q4_ := HN4.out; have q5_ := HN5.out; have q6_ := HN6.out; have q7_ := HN7.out; have q8_ := HN8.out; have q9_ := HN9.out; have q10_ := HN10.out; have q11_ := HN11.out; have q12_ := HN12.out; have q13_ := HN13.out; have q14_ := HN14.out; have q15_ := HN15.out; have q16_ := HN16.out; have q17_ := HN17.out; have q18_ := HN18.out; have q19_ := HN19.out; have q20_ := HN20.out; have q21_ := HN21.out; have q22_ := HN22.out; omega)); have m13_ := Aside0.mk (Kd.S_kept (by ((with_reducible repeat (first | apply Kd.S_alloc | apply Kd.S_drewN | apply Kd.S_drew)); exact HO60.out)) hk (fun k_ h1_ h2_ => by have q1_ := HN1.out; have q2_ := HN2.out; have q3_ := HN3.out; have q4_ := HN4.out; have q5_ := HN5.out; have q6_ := HN6.out; have q7_ := HN7.out; have q8_ := HN8.out; have q9_ := HN9.out; have q10_ := HN10.out; have q11_ := HN11.out; have q12_ := HN12.out; have q13_ := HN13.out; have q14_ := HN14.out; have q15_ := HN15.out; have q16_ := HN16.out; have q17_ := HN17.out; have q18_ := HN18.out; have q19_ := HN19.out; have q20_ := HN20.out; have q21_ := HN21.out; have q22_ := HN22.out; omega)); have mO_ := Aside0.mk (show Kd.S (Kd.slice 5 (Kd.int .u8)) 28 w1092 w.heap.size (fun k_ => n12 ≤ k_ ∧ k_ < n13) (.slice Ao41 t21.length co41) y71 from ho_); have mL_ := Aside0.mk (by (repeat (first | exact HZ.out | (with_reducible first | apply sz_alloc | apply sz_drewN | apply sz_drew | apply sz_set))) : n22 ≤ _); have mZ_ := Aside0.mk (Nat.le_trans mL_.out hk.1 : n22 ≤ w1092.heap.size); have mB_ := Aside0.mk hb2_; clear BK3 BK5 BK10 BK12 HO15 HO19 HO23 HO28 HO32 HO37 HO46 HO51 HO55 HO60 HB HZ HO41; have BK3 := m0_; have BK5 := m1_; have BK10 := m2_; have BK12 := m3_; have HO15 := m4_; have HO19 := m5_; have HO23 := m6_; have HO28 := m7_; have HO32 := m8_; have HO37 := m9_; have HO46 := m10_; have HO51 := m11_; have HO55 := m12_; have HO60 := m13_; have HO41 := mO_; have HB := mB_; have HZ := mZ_; clear m0_ m1_ m2_ m3_ m4_ m5_ m6_ m7_ m8_ m9_ m10_ m11_ m12_ m13_ mO_ mB_ mZ_ mL_; clear ho_ hb2_ hk) | ((with_reducible refine gate_callee (f := 31) rfl ?_); refine goesL_ (some 106) rfl rfl Try.func31 (by kernel_rfl) rfl #[.slice Ao46 g24.length co46, .int .i64 1] rfl (by (try simp only [List.map_toArray, List.map_cons, List.map_nil]); first | done | rfl) ?_; (with_reducible refine (laws_markIntS.calls k (fun k_ => n14 ≤ k_ ∧ k_ < n15) _ g24 1 m74 y75 w _ ?sideB ?sideO E23.out).mono ?_); (case sideB => exact (by (repeat (first | (with_reducible first | exact HB.out | apply below_alloc | apply pw_below_drewN | apply below_drew1 | refine below_set ?_ GE3.out | refine below_set ?_ GE5.out | refine below_set ?_ GE10.out | refine below_set ?_ GE12.out) | exact HB.out)))); (case sideO => exact (by ((with_reducible repeat (first | apply Kd.R_alloc | apply Kd.R_drewN | apply Kd.R_drew)); exact HO46.out))); rintro e w1098 ⟨rfl, ho_, hb2_, hk⟩; refine ⟨_, rfl, ?_⟩; have m0_ := Aside0.mk (blk_kept (g := gb3) (o := .cells #[.slice A0_0 l0_0.length c0_0] 24 (0, 0)) (by ((with_reducible repeat (first | refine blk_drewN ?_ _ | refine blk_drew ?_ | refine blk_alloc ?_ _)); exact BK3.out)) hk (fun h_ => by have h1_ := HI3.out; have q1_ := HN1.out; have q2_ := HN2.out; have q3_ := HN3.out; have q4_ := HN4.out; have q5_ := HN5.out; have q6_ := HN6.out; have q7_ := HN7.out; have q8_ := HN8.out; have q9_ := HN9.out; have q10_ := HN10.out; have q11_ := HN11.out; have q12_ := HN12.out; have q13_ := HN13.out; have q14_ := HN14.out; have q15_ := HN15.out; have q16_ := HN16.out; have q17_ := HN17.out; have q18_ := HN18.out; have q19_ := HN19.out; have q20_ := HN20.out; have q21_ := HN21.out; have q22_ := HN22.out; have q23_ := HN23.out; omega)); have m1_ := Aside0.mk (blk_kept (g := gb5) (o := .cells #[.slice A2_0 l2_0.length c2_0] 24 (0, 0)) (by ((with_reducible repeat (first | refine blk_drewN ?_ _ | refine blk_drew ?_ | refine blk_alloc ?_ _)); exact BK5.out)) hk (fun h_ => by have h1_ := HI5.out; have q1_ := HN1.out; have q2_ := HN2.out; have q3_ := HN3.out; have q4_ := HN4.out; have q5_ := HN5.out; have q6_ := HN6.out; have q7_ := HN7.out; have q8_ := HN8.out; have q9_ := HN9.out; have q10_ := HN10.out; have q11_ := HN11.out; have q12_ := HN12.out; have q13_ := HN13.out; have q14_ := HN14.out; have q15_ := HN15.out; have q16_ := HN16.out; have q17_ := HN17.out; have q18_ := HN18.out; have q19_ := HN19.out; have q20_ := HN20.out; have q21_ := HN21.out; have q22_ := HN22.out; have q23_ := HN23.out; omega)); have m2_ := Aside0.mk (blk_kept (g := gb10) (o := .cells #[.slice Ao32 t13.length co32] 31 (0, 0)) (by ((with_reducible repeat (first | refine blk_drewN ?_ _ | refine blk_drew ?_ | refine blk_alloc ?_ _)); exact BK10.out)) hk (fun h_ => by have h1_ := HI10.out; have q1_ := HN1.out; have q2_ := HN2.out; have q3_ := HN3.out; have q4_ := HN4.out; have q5_ := HN5.out; have q6_ := HN6.out; have q7_ := HN7.out; have q8_ := HN8.out; have q9_ := HN9.out; have q10_ := HN10.out; have q11_ := HN11.out; have q12_ := HN12.out; have q13_ := HN13.out; have q14_ := HN14.out; have q15_ := HN15.out; have q16_ := HN16.out; have q17_ := HN17.out; have q18_ := HN18.out; have q19_ := HN19.out; have q20_ := HN20.out; have q21_ := HN21.out; have q22_ := HN22.out; have q23_ := HN23.out; omega)); have m3_ := Aside0.mk (blk_kept (g := gb12) (o := .cells #[.slice Ao41 t21.length co41] 31 (0, 0)) (by ((with_reducible repeat (first | refine blk_drewN ?_ _ | refine blk_drew ?_ | refine blk_alloc ?_ _)); exact BK12.out)) hk (fun h_ => by have h1_ := HI12.out; have q1_ := HN1.out; have q2_ := HN2.out; have q3_ := HN3.out; have q4_ := HN4.out; have q5_ := HN5.out; have q6_ := HN6.out; have q7_ := HN7.out; have q8_ := HN8.out; have q9_ := HN9.out; have q10_ := HN10.out; have q11_ := HN11.out; have q12_ := HN12.out; have q13_ := HN13.out; have q14_ := HN14.out; have q15_ := HN15.out; have q16_ := HN16.out; have q17_ := HN17.out; have q18_ := HN18.out; have q19_ := HN19.out; have q20_ := HN20.out; have q21_ := HN21.out; have q22_ := HN22.out; have q23_ := HN23.out; omega)); have m4_ := Aside0.mk (Kd.S_kept (by ((with_reducible repeat (first | apply Kd.S_alloc | apply Kd.S_drewN | apply Kd.S_drew)); exact HO15.out)) hk (fun k_ h1_ h2_ => by have q1_ := HN1.out; have q2_ := HN2.out; have q3_ := HN3.out; have q4_ := HN4.out; have q5_ := HN5.out; have q6_ := HN6.out; have q7_ := HN7.out; have q8_ := HN8.out; have q9_ := HN9.out; have q10_ := HN10.out; have q11_ := HN11.out; have q12_ := HN12.out; have q13_ := HN13.out; have q14_ := HN14.out; have q15_ := HN15.out; have q16_ := HN16.out; have q17_ := HN17.out; have q18_ := HN18.out; have q19_ := HN19.out; have q20_ := HN20.out; have q21_ := HN21.out; have q22_ := HN22.out; have q23_ := HN23.out; omega)); have m5_ := Aside0.mk (Kd.R_kept (by ((with_reducible repeat (first | apply Kd.R_alloc | apply Kd.R_drewN | apply Kd.R_drew)); exact HO19.out)) hk (fun k_ h1_ h2_ => by have q1_ := HN1.out; have q2_ := HN2.out; have q3_ := HN3.out; have q4_ := HN4.out; have q5_ := HN5.out; have q6_ := HN6.out; have q7_ := HN7.out; have q8_ := HN8.out; have q9_ := HN9.out; have q10_ := HN10.out; have q11_ := HN11.out; have q12_ := HN12.out; have q13_ := HN13.out; have q14_ := HN14.out; have q15_ := HN15.out; have q16_ := HN16.out; have q17_ := HN17.out; have q18_ := HN18.out; have q19_ := HN19.out; have q20_ := HN20.out; have q21_ := HN21.out; have q22_ := HN22.out; have q23_ := HN23.out; omega)); have m6_ := Aside0.mk (Kd.S_kept (by ((with_reducible repeat (first | apply Kd.S_alloc | apply Kd.S_drewN | apply Kd.S_drew)); exact HO23.out)) hk (fun k_ h1_ h2_ => by have q1_ := HN1.out; have q2_ := HN2.out; have q3_ := HN3.out; have q4_ := HN4.out; have q5_ := HN5.out; have q6_ := HN6.out; have q7_ := HN7.out; have q8_ := HN8.out; have q9_ := HN9.out; have q10_ := HN10.out; have q11_ := HN11.out; have q12_ := HN12.out; have q13_ := HN13.out; have q14_ := HN14.out; have q15_ := HN15.out; have q16_ := HN16.out; have q17_ := HN17.out; have q18_ := HN18.out; have q19_ := HN19.out; have q20_ := HN20.out; have q21_ := HN21.out; have q22_ := HN22.out; have q23_ := HN23.out; omega)); have m7_ := Aside0.mk (Kd.R_kept (by ((with_reducible repeat (first | apply Kd.R_alloc | apply Kd.R_drewN | apply Kd.R_drew)); exact HO28.out)) hk (fun k_ h1_ h2_ => by have q1_ := HN1.out; have q2_ := HN2.out; have q3_ := HN3.out; have q4_ := HN4.out; have q5_ := HN5.out; have q6_ := HN6.out; have q7_ := HN7.out; have q8_ := HN8.out; have q9_ := HN9.out; have q10_ := HN10.out; have q11_ := HN11.out; have q12_ := HN12.out; have q13_ := HN13.out; have q14_ := HN14.out; have q15_ := HN15.out; have q16_ := HN16.out; have q17_ := HN17.out; have q18_ := HN18.out; have q19_ := HN19.out; have q20_ := HN20.out; have q21_ := HN21.out; have q22_ := HN22.out; have q23_ := HN23.out; omega)); have m8_ := Aside0.mk (Kd.S_kept (by ((with_reducible repeat (first | apply Kd.S_alloc | apply Kd.S_drewN | apply Kd.S_drew)); exact HO32.out)) hk (fun k_ h1_ h2_ => by have q1_ := HN1.out; have q2_ := HN2.out; have q3_ := HN3.out; have q4_ := HN4.out; have q5_ := HN5.out; have q6_ := HN6.out; have q7_ := HN7.out; have q8_ := HN8.out; have q9_ := HN9.out; have q10_ := HN10.out; have q11_ := HN11.out; have q12_ := HN12.out; have q13_ := HN13.out; have q14_ := HN14.out; have q15_ := HN15.out; have q16_ := HN16.out; have q17_ := HN17.out; have q18_ := HN18.out; have q19_ := HN19.out; have q20_ := HN20.out; have q21_ := HN21.out; have q22_ := HN22.out; have q23_ := HN23.out; omega)); have m9_ := Aside0.mk (Kd.R_kept (by ((with_reducible repeat (first | apply Kd.R_alloc | apply Kd.R_drewN | apply Kd.R_drew)); exact HO37.out)) hk (fun k_ h1_ h2_ => by have q1_ := HN1.out; have q2_ := HN2.out; have q3_ := HN3.out; have q4_ := HN4.out; have q5_ := HN5.out; have q6_ := HN6.out; have q7_ := HN7.out; have q8_ := HN8.out; have q9_ := HN9.out; have q10_ := HN10.out; have q11_ := HN11.out; have q12_ := HN12.out; have q13_ := HN13.out; have q14_ := HN14.out; have q15_ := HN15.out; have q16_ := HN16.out; have q17_ := HN17.out; have q18_ := HN18.out; have q19_ := HN19.out; have q20_ := HN20.out; have q21_ := HN21.out; have q22_ := HN22.out; have q23_ := HN23.out; omega)); have m10_ := Aside0.mk (Kd.S_kept (by ((with_reducible repeat (first | apply Kd.S_alloc | apply Kd.S_drewN | apply Kd.S_drew)); exact HO41.out)) hk (fun k_ h1_ h2_ => by have q1_ := HN1.out; have q2_ := HN2.out; have q3_ := HN3.out; have q4_ := HN4.out; have q5_ := HN5.out; have q6_ := HN6.out; have q7_ := HN7.out; have q8_ := HN8.out; have q9_ := HN9.out; have q10_ := HN10.out; have q11_ := HN11.out; have q12_ := HN12.out; have q13_ := HN13.out; have q14_ := HN14.out; have q15_ := HN15.out; have q16_ := HN16.out; have q17_ := HN17.out; have q18_ := HN18.out; have q19_ := HN19.out; have q20_ := HN20.out; have q21_ := HN21.out; have q22_ := HN22.out; have q23_ := HN23.out; omega)); have m11_ := Aside0.mk (Kd.S_kept (by ((with_reducible repeat (first | apply Kd.S_alloc | apply Kd.S_drewN | apply Kd.S_drew)); exact HO51.out)) hk (fun k_ h1_ h2_ => by have q1_ := HN1.out; have q2_ := HN2.out; have q3_ := HN3.out; have q4_ := HN4.out; have q5_ := HN5.out; have q6_ := HN6.out; have q7_ := HN7.out; have q8_ := HN8.out; have q9_ := HN9.out; have q10_ := HN10.out; have q11_ := HN11.out; have q12_ := HN12.out; have q13_ := HN13.out; have q14_ := HN14.out; have q15_ := HN15.out; have q16_ := HN16.out; have q17_ := HN17.out; have q18_ := HN18.out; have q19_ := HN19.out; have q20_ := HN20.out; have q21_ := HN21.out; have q22_ := HN22.out; have q23_ := HN23.out; omega)); have m12_ := Aside0.mk (Kd.R_kept (by ((with_reducible repeat (first | apply Kd.R_alloc | apply Kd.R_drewN | apply Kd.R_drew)); exact HO55.out)) hk (fun k_ h1_ h2_ => by have q1_ := HN1.out; have q2_ := HN2.out; have q3_ := HN3.out; have q4_ := HN4.out; have q5_ := HN5.out; have q6_ := HN6.out; have q7_ := HN7.out; have q8_ := HN8.out; have q9_ := HN9.out; have q10_ := HN10.out; have q11_ := HN11.out; have q12_ := HN12.out; have q13_ := HN13.out; have q14_ := HN14.out; have q15_ := HN15.out; have q16_ := HN16.out; have q17_ := HN17.out; have q18_ := HN18.out; have q19_ := HN19.out; have q20_ := HN20.out; have q21_ := HN21.out; have q22_ := HN22.out; have q23_ := HN23.out; omega)); have m13_ := Aside0.mk (Kd.S_kept (by ((with_reducible repeat (first | apply Kd.S_alloc | apply Kd.S_drewN | apply Kd.S_drew)); exact HO60.out)) hk (fun k_ h1_ h2_ => by have q1_ := HN1.out; have q2_ := HN2.out; have q3_ := HN3.out; have q4_ := HN4.out; have q5_ := HN5.out; have q6_ := HN6.out; have q7_ := HN7.out; have q8_ := HN8.out; have q9_ := HN9.out; have q10_ := HN10.out; have q11_ := HN11.out; have q12_ := HN12.out; have q13_ := HN13.out; have q14_ := HN14.out; have q15_ := HN15.out; have q16_ := HN16.out; have q17_ := HN17.out; have q18_ := HN18.out; have q19_ := HN19.out; have q20_ := HN20.out; have q21_ := HN21.out; have q22_ := HN22.out; have q23_ := HN23.out; omega)); have mO_ := Aside0.mk (show Kd.R (Kd.int .i64) 3 w1098 w.heap.size (fun k_ => n14 ≤ k_ ∧ k_ < n15) (.slice Ao46 g24.length co46) y75 from Kd.R_mono (Kd.R_tight rfl ho_) (fun k_ hk_ => HO46.out.1 k_ hk_.symm)); have mL_ := Aside0.mk (by (repeat (first | exact HZ.out | (with_reducible first | apply sz_alloc | apply sz_drewN | apply sz_drew | apply sz_set))) : n23 ≤ _); have mZ_ := Aside0.mk (Nat.le_trans mL_.out hk.1 : n23 ≤ w1098.heap.size); have mB_ := Aside0.mk hb2_; clear BK3 BK5 BK10 BK12 HO15 HO19 HO23 HO28 HO32 HO37 HO41 HO51 HO55 HO60 HB HZ HO46; have BK3 := m0_; have BK5 := m1_; have BK10 := m2_; have BK12 := m3_; have HO15 := m4_; have HO19 := m5_; have HO23 := m6_; have HO28 := m7_; have HO32 := m8_; have HO37 := m9_; have HO41 := m10_; have HO51 := m11_; have HO55 := m12_; have HO60 := m13_; have HO46 := mO_; have HB := mB_; have HZ := mZ_; clear m0_ m1_ m2_ m3_ m4_ m5_ m6_ m7_ m8_ m9_ m10_ m11_ m12_ m13_ mO_ mB_ mZ_ mL_; clear ho_ hb2_ hk) | ((with_reducible refine gate_callee (f := 32) rfl ?_); refine goesL_ (some 109) rfl rfl Try.func32 (by kernel_rfl) rfl #[.slice Ao46 y75.length co46, .int .i64 1] rfl (by (try simp only [List.map_toArray, List.map_cons, List.map_nil]); first | done | (rw [show g24.length = y75.length from (Kd.R_reads' HO46.out).1] <;> rfl) | rfl) ?_; (with_reducible refine (laws_heldIntS.calls k _ _ y75 1 m74 _ ?sr0 ?sc0 E24.out).mono ?_); (case sr0 => repeat (first | exact (Kd.R_reads' HO46.out).2.2 | (with_reducible refine Kd.C_alloc ?_ _) | (with_reducible refine Kd.C_drewN ?_ _) | (with_reducible refine Kd.C_drew ?_))); (case sc0 => first | exact (Kd.R_reads' HO46.out).2.1 | exact Nat.le_trans (Nat.le_of_eq (Kd.R_reads' HO46.out).1.symm) (Kd.R_reads' HO46.out).2.1); rintro e w1100 ⟨rfl, hd_⟩; have hb := hd_.below; clear hd_; refine ⟨_, rfl, ?_⟩; have m0_ := Aside0.mk (blk_below (g := gb3) (o := .cells #[.slice A0_0 l0_0.length c0_0] 24 (0, 0)) (by ((with_reducible repeat (first | refine blk_drewN ?_ _ | refine blk_drew ?_ | refine blk_alloc ?_ _)); exact BK3.out)) hb); have m1_ := Aside0.mk (blk_below (g := gb5) (o := .cells #[.slice A2_0 l2_0.length c2_0] 24 (0, 0)) (by ((with_reducible repeat (first | refine blk_drewN ?_ _ | refine blk_drew ?_ | refine blk_alloc ?_ _)); exact BK5.out)) hb); have m2_ := Aside0.mk (blk_below (g := gb10) (o := .cells #[.slice Ao32 t13.length co32] 31 (0, 0)) (by ((with_reducible repeat (first | refine blk_drewN ?_ _ | refine blk_drew ?_ | refine blk_alloc ?_ _)); exact BK10.out)) hb); have m3_ := Aside0.mk (blk_below (g := gb12) (o := .cells #[.slice Ao41 t21.length co41] 31 (0, 0)) (by ((with_reducible repeat (first | refine blk_drewN ?_ _ | refine blk_drew ?_ | refine blk_alloc ?_ _)); exact BK12.out)) hb); have m4_ := Aside0.mk (Kd.S_below (by ((with_reducible repeat (first | apply Kd.S_alloc | apply Kd.S_drewN | apply Kd.S_drew)); exact HO15.out)) hb); have m5_ := Aside0.mk (Kd.R_below (by ((with_reducible repeat (first | apply Kd.R_alloc | apply Kd.R_drewN | apply Kd.R_drew)); exact HO19.out)) hb); have m6_ := Aside0.mk (Kd.S_below (by ((with_reducible repeat (first | apply Kd.S_alloc | apply Kd.S_drewN | apply Kd.S_drew)); exact HO23.out)) hb); have m7_ := Aside0.mk (Kd.R_below (by ((with_reducible repeat (first | apply Kd.R_alloc | apply Kd.R_drewN | apply Kd.R_drew)); exact HO28.out)) hb); have m8_ := Aside0.mk (Kd.S_below (by ((with_reducible repeat (first | apply Kd.S_alloc | apply Kd.S_drewN | apply Kd.S_drew)); exact HO32.out)) hb); have m9_ := Aside0.mk (Kd.R_below (by ((with_reducible repeat (first | apply Kd.R_alloc | apply Kd.R_drewN | apply Kd.R_drew)); exact HO37.out)) hb); have m10_ := Aside0.mk (Kd.S_below (by ((with_reducible repeat (first | apply Kd.S_alloc | apply Kd.S_drewN | apply Kd.S_drew)); exact HO41.out)) hb); have m11_ := Aside0.mk (Kd.R_below (by ((with_reducible repeat (first | apply Kd.R_alloc | apply Kd.R_drewN | apply Kd.R_drew)); exact HO46.out)) hb); have m12_ := Aside0.mk (Kd.S_below (by ((with_reducible repeat (first | apply Kd.S_alloc | apply Kd.S_drewN | apply Kd.S_drew)); exact HO51.out)) hb); have m13_ := Aside0.mk (Kd.R_below (by ((with_reducible repeat (first | apply Kd.R_alloc | apply Kd.R_drewN | apply Kd.R_drew)); exact HO55.out)) hb); have m14_ := Aside0.mk (Kd.S_below (by ((with_reducible repeat (first | apply Kd.S_alloc | apply Kd.S_drewN | apply Kd.S_drew)); exact HO60.out)) hb); have mB_ := Aside0.mk (below_step (by (repeat (first | (with_reducible first | exact HB.out | apply below_alloc | apply pw_below_drewN | apply below_drew1 | refine below_set ?_ GE3.out | refine below_set ?_ GE5.out | refine below_set ?_ GE10.out | refine below_set ?_ GE12.out) | exact HB.out))) hb); have mL_ := Aside0.mk (by (repeat (first | exact HZ.out | (with_reducible first | apply sz_alloc | apply sz_drewN | apply sz_drew | apply sz_set))) : n23 ≤ _); obtain ⟨n24, hn_⟩ : ∃ n_, n_ = w1100.heap.size := ⟨_, rfl⟩; have mN_ := Aside0.mk (by rw [hn_]; exact Nat.le_trans mL_.out hb.size : n23 ≤ n24); have mZ_ := Aside0.mk (Nat.le_of_eq hn_ : n24 ≤ w1100.heap.size); clear BK3 BK5 BK10 BK12 HO15 HO19 HO23 HO28 HO32 HO37 HO41 HO46 HO51 HO55 HO60 HB HZ; have BK3 := m0_; have BK5 := m1_; have BK10 := m2_; have BK12 := m3_; have HO15 := m4_; have HO19 := m5_; have HO23 := m6_; have HO28 := m7_; have HO32 := m8_; have HO37 := m9_; have HO41 := m10_; have HO46 := m11_; have HO51 := m12_; have HO55 := m13_; have HO60 := m14_; have HB := mB_; have HZ := mZ_; have HN24 := mN_; clear m0_ m1_ m2_ m3_ m4_ m5_ m6_ m7_ m8_ m9_ m10_ m11_ m12_ m13_ m14_ mB_ mN_ mZ_ mL_; (try clear hn_); clear hb) | (go_at_call 29; (with_reducible refine (laws_eqIntS.calls k _ _ g24 _ _ s26 true _ ?sr0 ?sc0 ?sr1 ?sc1 E12.out).mono ?_); (case sr0 => repeat (first | exact (Kd.R_reads' HO46.out).2.2 | (with_reducible refine Kd.C_alloc ?_ _) | (with_reducible refine Kd.C_drewN ?_ _) | (with_reducible refine Kd.C_drew ?_))); (case sc0 => first | exact (Kd.R_reads' HO46.out).2.1 | exact Nat.le_trans (Nat.le_of_eq (Kd.R_reads' HO46.out).1.symm) (Kd.R_reads' HO46.out).2.1); (case sr1 => repeat (first | exact (Kd.R_reads' HO28.out).2.2 | (with_reducible refine Kd.C_alloc ?_ _) | (with_reducible refine Kd.C_drewN ?_ _) | (with_reducible refine Kd.C_drew ?_))); (case sc1 => first | exact (Kd.R_reads' HO28.out).2.1 | exact Nat.le_trans (Nat.le_of_eq (Kd.R_reads' HO28.out).1.symm) (Kd.R_reads' HO28.out).2.1); rintro e w1094 ⟨rfl, hd_⟩; have hb := hd_.below; clear hd_; have m0_ := Aside0.mk (blk_below (g := gb3) (o := .cells #[.slice A0_0 l0_0.length c0_0] 24 (0, 0)) (by ((with_reducible repeat (first | refine blk_drewN ?_ _ | refine blk_drew ?_ | refine blk_alloc ?_ _)); exact BK3.out)) hb); have m1_ := Aside0.mk (blk_below (g := gb5) (o := .cells #[.slice A2_0 l2_0.length c2_0] 24 (0, 0)) (by ((with_reducible repeat (first | refine blk_drewN ?_ _ | refine blk_drew ?_ | refine blk_alloc ?_ _)); exact BK5.out)) hb); have m2_ := Aside0.mk (blk_below (g := gb10) (o := .cells #[.slice Ao32 t13.length co32] 31 (0, 0)) (by ((with_reducible repeat (first | refine blk_drewN ?_ _ | refine blk_drew ?_ | refine blk_alloc ?_ _)); exact BK10.out)) hb); have m3_ := Aside0.mk (blk_below (g := gb12) (o := .cells #[.slice Ao41 t21.length co41] 31 (0, 0)) (by ((with_reducible repeat (first | refine blk_drewN ?_ _ | refine blk_drew ?_ | refine blk_alloc ?_ _)); exact BK12.out)) hb); have m4_ := Aside0.mk (Kd.S_below (by ((with_reducible repeat (first | apply Kd.S_alloc | apply Kd.S_drewN | apply Kd.S_drew)); exact HO15.out)) hb); have m5_ := Aside0.mk (Kd.R_below (by ((with_reducible repeat (first | apply Kd.R_alloc | apply Kd.R_drewN | apply Kd.R_drew)); exact HO19.out)) hb); have m6_ := Aside0.mk (Kd.S_below (by ((with_reducible repeat (first | apply Kd.S_alloc | apply Kd.S_drewN | apply Kd.S_drew)); exact HO23.out)) hb); have m7_ := Aside0.mk (Kd.R_below (by ((with_reducible repeat (first | apply Kd.R_alloc | apply Kd.R_drewN | apply Kd.R_drew)); exact HO28.out)) hb); have m8_ := Aside0.mk (Kd.S_below (by ((with_reducible repeat (first | apply Kd.S_alloc | apply Kd.S_drewN | apply Kd.S_drew)); exact HO32.out)) hb); have m9_ := Aside0.mk (Kd.R_below (by ((with_reducible repeat (first | apply Kd.R_alloc | apply Kd.R_drewN | apply Kd.R_drew)); exact HO37.out)) hb); have m10_ := Aside0.mk (Kd.S_below (by ((with_reducible repeat (first | apply Kd.S_alloc | apply Kd.S_drewN | apply Kd.S_drew)); exact HO41.out)) hb); have m11_ := Aside0.mk (Kd.R_below (by ((with_reducible repeat (first | apply Kd.R_alloc | apply Kd.R_drewN | apply Kd.R_drew)); exact HO46.out)) hb); have m12_ := Aside0.mk (Kd.S_below (by ((with_reducible repeat (first | apply Kd.S_alloc | apply Kd.S_drewN | apply Kd.S_drew)); exact HO51.out)) hb); have m13_ := Aside0.mk (Kd.R_below (by ((with_reducible repeat (first | apply Kd.R_alloc | apply Kd.R_drewN | apply Kd.R_drew)); exact HO55.out)) hb); have m14_ := Aside0.mk (Kd.S_below (by ((with_reducible repeat (first | apply Kd.S_alloc | apply Kd.S_drewN | apply Kd.S_drew)); exact HO60.out)) hb); have mB_ := Aside0.mk (below_step (by (repeat (first | (with_reducible first | exact HB.out | apply below_alloc | apply pw_below_drewN | apply below_drew1 | refine below_set ?_ GE3.out | refine below_set ?_ GE5.out | refine below_set ?_ GE10.out | refine below_set ?_ GE12.out) | exact HB.out))) hb); have mL_ := Aside0.mk (by (repeat (first | exact HZ.out | (with_reducible first | apply sz_alloc | apply sz_drewN | apply sz_drew | apply sz_set))) : n22 ≤ _); obtain ⟨n23, hn_⟩ : ∃ n_, n_ = w1094.heap.size := ⟨_, rfl⟩; have mN_ := Aside0.mk (by rw [hn_]; exact Nat.le_trans mL_.out hb.size : n22 ≤ n23); have mZ_ := Aside0.mk (Nat.le_of_eq hn_ : n23 ≤ w1094.heap.size); clear BK3 BK5 BK10 BK12 HO15 HO19 HO23 HO28 HO32 HO37 HO41 HO46 HO51 HO55 HO60 HB HZ; have BK3 := m0_; have BK5 := m1_; have BK10 := m2_; have BK12 := m3_; have HO15 := m4_; have HO19 := m5_; have HO23 := m6_; have HO28 := m7_; have HO32 := m8_; have HO37 := m9_; have HO41 := m10_; have HO46 := m11_; have HO51 := m12_; have HO55 := m13_; have HO60 := m14_; have HB := mB_; have HZ := mZ_; have HN23 := mN_; clear m0_ m1_ m2_ m3_ m4_ m5_ m6_ m7_ m8_ m9_ m10_ m11_ m12_ m13_ m14_ mB_ mN_ mZ_ mL_; (try clear hn_); clear hb))
  try go_wp2
  have m0_ := Aside0.mk (show (World.drew w1100).heap[gb3]? = some (Obj.cells #[.slice A0_0 l0_0.length c0_0] 24 (0, 0)) from blk_drew (by ((with_reducible repeat (first | refine blk_drewN ?_ _ | refine blk_drew ?_ | refine blk_alloc ?_ _)); exact BK3.out)))
  have m1_ := Aside0.mk (show (World.drew w1100).heap[gb5]? = some (Obj.cells #[.slice A2_0 l2_0.length c2_0] 24 (0, 0)) from blk_drew (by ((with_reducible repeat (first | refine blk_drewN ?_ _ | refine blk_drew ?_ | refine blk_alloc ?_ _)); exact BK5.out)))
  have m2_ := Aside0.mk (show (World.drew w1100).heap[gb10]? = some (Obj.cells #[.slice Ao32 t13.length co32] 31 (0, 0)) from blk_drew (by ((with_reducible repeat (first | refine blk_drewN ?_ _ | refine blk_drew ?_ | refine blk_alloc ?_ _)); exact BK10.out)))
  have m3_ := Aside0.mk (show (World.drew w1100).heap[gb12]? = some (Obj.cells #[.slice Ao41 t21.length co41] 31 (0, 0)) from blk_drew (by ((with_reducible repeat (first | refine blk_drewN ?_ _ | refine blk_drew ?_ | refine blk_alloc ?_ _)); exact BK12.out)))
  have m4_ := Aside0.mk (show Kd.S (Kd.slice 5 (Kd.int .u8)) 28 w1100.drew w.heap.size (fun k_ => n5 ≤ k_ ∧ k_ < n6) (.slice Ao15 t13.length co15) t13 from Kd.S_drew (by ((with_reducible repeat (first | apply Kd.S_alloc | apply Kd.S_drewN | apply Kd.S_drew)); exact HO15.out)))
  have m5_ := Aside0.mk (show Kd.R k33 33 w1100.drew w.heap.size (fun k_ => n6 ≤ k_ ∧ k_ < n7) (.slice Ao19 t17.length co19) t17 from Kd.R_drew (by ((with_reducible repeat (first | apply Kd.R_alloc | apply Kd.R_drewN | apply Kd.R_drew)); exact HO19.out)))
  have m6_ := Aside0.mk (show Kd.S (Kd.slice 5 (Kd.int .u8)) 28 w1100.drew w.heap.size (fun k_ => n7 ≤ k_ ∧ k_ < n8) (.slice Ao23 t21.length co23) t21 from Kd.S_drew (by ((with_reducible repeat (first | apply Kd.S_alloc | apply Kd.S_drewN | apply Kd.S_drew)); exact HO23.out)))
  have m7_ := Aside0.mk (show Kd.R (Kd.int .i64) 3 w1100.drew w.heap.size (fun k_ => n8 ≤ k_ ∧ k_ < n9) (.slice Ao28 s26.length co28) s26 from Kd.R_drew (by ((with_reducible repeat (first | apply Kd.R_alloc | apply Kd.R_drewN | apply Kd.R_drew)); exact HO28.out)))
  have m8_ := Aside0.mk (show Kd.S (Kd.slice 5 (Kd.int .u8)) 28 w1100.drew w.heap.size (fun k_ => n9 ≤ k_ ∧ k_ < n10) (.slice Ao32 t13.length co32) y64 from Kd.S_drew (by ((with_reducible repeat (first | apply Kd.S_alloc | apply Kd.S_drewN | apply Kd.S_drew)); exact HO32.out)))
  have m9_ := Aside0.mk (show Kd.R k33 33 w1100.drew w.heap.size (fun k_ => n11 ≤ k_ ∧ k_ < n12) (.slice Ao37 t17.length co37) y67 from Kd.R_drew (by ((with_reducible repeat (first | apply Kd.R_alloc | apply Kd.R_drewN | apply Kd.R_drew)); exact HO37.out)))
  have m10_ := Aside0.mk (show Kd.S (Kd.slice 5 (Kd.int .u8)) 28 w1100.drew w.heap.size (fun k_ => n12 ≤ k_ ∧ k_ < n13) (.slice Ao41 t21.length co41) y71 from Kd.S_drew (by ((with_reducible repeat (first | apply Kd.S_alloc | apply Kd.S_drewN | apply Kd.S_drew)); exact HO41.out)))
  have m11_ := Aside0.mk (show Kd.R (Kd.int .i64) 3 w1100.drew w.heap.size (fun k_ => n14 ≤ k_ ∧ k_ < n15) (.slice Ao46 g24.length co46) y75 from Kd.R_drew (by ((with_reducible repeat (first | apply Kd.R_alloc | apply Kd.R_drewN | apply Kd.R_drew)); exact HO46.out)))
  have m12_ := Aside0.mk (show Kd.S (Kd.slice 5 (Kd.int .u8)) 28 w1100.drew w.heap.size (fun k_ => n16 ≤ k_ ∧ k_ < n17) (.slice Ao51 t13.length co51) t13 from Kd.S_drew (by ((with_reducible repeat (first | apply Kd.S_alloc | apply Kd.S_drewN | apply Kd.S_drew)); exact HO51.out)))
  have m13_ := Aside0.mk (show Kd.R k33 33 w1100.drew w.heap.size (fun k_ => n18 ≤ k_ ∧ k_ < n19) (.slice Ao55 t17.length co55) t17 from Kd.R_drew (by ((with_reducible repeat (first | apply Kd.R_alloc | apply Kd.R_drewN | apply Kd.R_drew)); exact HO55.out)))
  have m14_ := Aside0.mk (show Kd.S (Kd.slice 5 (Kd.int .u8)) 28 w1100.drew w.heap.size (fun k_ => n20 ≤ k_ ∧ k_ < n21) (.slice Ao60 t21.length co60) t21 from Kd.S_drew (by ((with_reducible repeat (first | apply Kd.S_alloc | apply Kd.S_drewN | apply Kd.S_drew)); exact HO60.out)))
  have m15_ := Aside0.mk (show Below w.heap.size w w1100.drew from below_drew1 (by (repeat (first | (with_reducible first | exact HB.out | apply below_alloc | apply pw_below_drewN | apply below_drew1 | refine below_set ?_ GE3.out | refine below_set ?_ GE5.out | refine below_set ?_ GE10.out | refine below_set ?_ GE12.out) | exact HB.out))))
  have m16_ := Aside0.mk (show n24 ≤ w1100.drew.heap.size from sz_drew (by (repeat (first | exact HZ.out | (with_reducible first | apply sz_alloc | apply sz_drewN | apply sz_drew | apply sz_set)))))
  clear BK3 BK5 BK10 BK12 HO15 HO19 HO23 HO28 HO32 HO37 HO41 HO46 HO51 HO55 HO60 HB HZ
  have BK3 := m0_
  have BK5 := m1_
  have BK10 := m2_
  have BK12 := m3_
  have HO15 := m4_
  have HO19 := m5_
  have HO23 := m6_
  have HO28 := m7_
  have HO32 := m8_
  have HO37 := m9_
  have HO41 := m10_
  have HO46 := m11_
  have HO51 := m12_
  have HO55 := m13_
  have HO60 := m14_
  have HB := m15_
  have HZ := m16_
  clear m0_ m1_ m2_ m3_ m4_ m5_ m6_ m7_ m8_ m9_ m10_ m11_ m12_ m13_ m14_ m15_ m16_
  refine start_ (n := 12) (S := fun w' => w'.cell? ⟨gb3, 0, none⟩ = some (.slice A0_0 l0_0.length c0_0) ∧ w'.cell? ⟨gb5, 0, none⟩ = some (.slice A2_0 l2_0.length c2_0)) (ds := []) #[false, false, false, false, false, false, false, false, false, false, false, false] (by kernel_rfl) rfl rfl ⟨(blk_cell BK3.out 0).trans rfl, (blk_cell BK5.out 0).trans rfl⟩ (fun hHeld => ?_)
  generalize w1100.drew = w2078 at BK3 BK5 BK10 BK12 HO15 HO19 HO23 HO28 HO32 HO37 HO41 HO46 HO51 HO55 HO60 HB HZ hHeld ⊢
  refine take_ (i := 0) (N := some 116) (v := ?_) (a' := ?_) #[true, false, false, false, false, false, false, false, false, false, false, false] rfl rfl (by kernel_rfl) (fun _ _ _ h => h) (Or.inl ⟨by rfl, ?_⟩) hHeld ?_ ?_
  rotate_left
  · rintro w' ⟨s0_, s1_⟩
    go_simp
    with_reducible rfl
  rotate_left
  · simp only [Act.put, List.setIfInBounds_toArray, List.set_cons_zero, List.set_cons_succ, i64_w, i32_w]
    rfl
  refine take_ (i := 4) (N := some 120) (v := ?_) (a' := ?_) #[true, false, false, false, true, false, false, false, false, false, false, false] rfl rfl (by kernel_rfl) (fun _ _ _ h => h) (Or.inl ⟨by rfl, ?_⟩) hHeld ?_ ?_
  rotate_left
  · rintro w' ⟨s0_, s1_⟩
    go_simp
    with_reducible rfl
  rotate_left
  · simp only [Act.put, List.setIfInBounds_toArray, List.set_cons_zero, List.set_cons_succ, i64_w, i32_w]
    rfl
  refine pure_ (i := 2) (N := some 118) (v := ?_) (a' := ?_) #[true, false, true, false, true, false, false, false, false, false, false, false] rfl rfl (by kernel_rfl) (fun _ _ _ h => h) (Or.inl ⟨by rfl, ?_⟩) ?_ ?_
  rotate_left
  · intro w'
    go_simp
    with_reducible rfl
  rotate_left
  · simp only [Act.put, List.setIfInBounds_toArray, List.set_cons_zero, List.set_cons_succ, i64_w, i32_w]
    rfl
  refine one_ (i := 1) (N := some 117) #[true, true, true, false, true, false, false, false, false, false, false, false] rfl rfl (by kernel_rfl) (by decide) (fun K hK => ?_)
  refine goes_ Try.func14 (by kernel_rfl) rfl #[.agg #[.slice A0_0 l0_0.length c0_0]] (by rfl) rfl rfl (by (try simp only [List.map_toArray, List.map_cons, List.map_nil]); first | done | rfl | (simp only [List.length_drop, List.length_take]; rfl)) ?_
  (with_reducible refine (laws_toMemory.calls k _ _ l0_0 t13 _ ?sr0 ?sc0 E4.out).mono ?_)
  (case sr0 => exact Kd.C_below HR0_0.out (by (repeat (first | (with_reducible first | exact HB.out | apply below_alloc | apply pw_below_drewN | apply below_drew1 | refine below_set ?_ GE3.out | refine below_set ?_ GE5.out | refine below_set ?_ GE10.out | refine below_set ?_ GE12.out) | exact HB.out))))
  (case sc0 => exact HC0_0.out)
  rintro e w1104 ⟨v25_0, rfl, ho0_, hb⟩
  refine ⟨_, rfl, ?_⟩
  have m0_ := Aside0.mk (blk_below (g := gb3) (o := .cells #[.slice A0_0 l0_0.length c0_0] 24 (0, 0)) (by ((with_reducible repeat (first | refine blk_drewN ?_ _ | refine blk_drew ?_ | refine blk_alloc ?_ _)); exact BK3.out)) hb)
  have m1_ := Aside0.mk (blk_below (g := gb5) (o := .cells #[.slice A2_0 l2_0.length c2_0] 24 (0, 0)) (by ((with_reducible repeat (first | refine blk_drewN ?_ _ | refine blk_drew ?_ | refine blk_alloc ?_ _)); exact BK5.out)) hb)
  have m2_ := Aside0.mk (blk_below (g := gb10) (o := .cells #[.slice Ao32 t13.length co32] 31 (0, 0)) (by ((with_reducible repeat (first | refine blk_drewN ?_ _ | refine blk_drew ?_ | refine blk_alloc ?_ _)); exact BK10.out)) hb)
  have m3_ := Aside0.mk (blk_below (g := gb12) (o := .cells #[.slice Ao41 t21.length co41] 31 (0, 0)) (by ((with_reducible repeat (first | refine blk_drewN ?_ _ | refine blk_drew ?_ | refine blk_alloc ?_ _)); exact BK12.out)) hb)
  have m4_ := Aside0.mk (Kd.S_below (by ((with_reducible repeat (first | apply Kd.S_alloc | apply Kd.S_drewN | apply Kd.S_drew)); exact HO15.out)) hb)
  have m5_ := Aside0.mk (Kd.R_below (by ((with_reducible repeat (first | apply Kd.R_alloc | apply Kd.R_drewN | apply Kd.R_drew)); exact HO19.out)) hb)
  have m6_ := Aside0.mk (Kd.S_below (by ((with_reducible repeat (first | apply Kd.S_alloc | apply Kd.S_drewN | apply Kd.S_drew)); exact HO23.out)) hb)
  have m7_ := Aside0.mk (Kd.R_below (by ((with_reducible repeat (first | apply Kd.R_alloc | apply Kd.R_drewN | apply Kd.R_drew)); exact HO28.out)) hb)
  have m8_ := Aside0.mk (Kd.S_below (by ((with_reducible repeat (first | apply Kd.S_alloc | apply Kd.S_drewN | apply Kd.S_drew)); exact HO32.out)) hb)
  have m9_ := Aside0.mk (Kd.R_below (by ((with_reducible repeat (first | apply Kd.R_alloc | apply Kd.R_drewN | apply Kd.R_drew)); exact HO37.out)) hb)
  have m10_ := Aside0.mk (Kd.S_below (by ((with_reducible repeat (first | apply Kd.S_alloc | apply Kd.S_drewN | apply Kd.S_drew)); exact HO41.out)) hb)
  have m11_ := Aside0.mk (Kd.R_below (by ((with_reducible repeat (first | apply Kd.R_alloc | apply Kd.R_drewN | apply Kd.R_drew)); exact HO46.out)) hb)
  have m12_ := Aside0.mk (Kd.S_below (by ((with_reducible repeat (first | apply Kd.S_alloc | apply Kd.S_drewN | apply Kd.S_drew)); exact HO51.out)) hb)
  have m13_ := Aside0.mk (Kd.R_below (by ((with_reducible repeat (first | apply Kd.R_alloc | apply Kd.R_drewN | apply Kd.R_drew)); exact HO55.out)) hb)
  have m14_ := Aside0.mk (Kd.S_below (by ((with_reducible repeat (first | apply Kd.S_alloc | apply Kd.S_drewN | apply Kd.S_drew)); exact HO60.out)) hb)
  have mB_ := Aside0.mk (below_step (by (repeat (first | (with_reducible first | exact HB.out | apply below_alloc | apply pw_below_drewN | apply below_drew1 | refine below_set ?_ GE3.out | refine below_set ?_ GE5.out | refine below_set ?_ GE10.out | refine below_set ?_ GE12.out) | exact HB.out))) hb)
  have mL_ := Aside0.mk (by (repeat (first | exact HZ.out | (with_reducible first | apply sz_alloc | apply sz_drewN | apply sz_drew | apply sz_set))) : n24 ≤ _)
  obtain ⟨n25, hn_⟩ : ∃ n_, n_ = w1104.heap.size := ⟨_, rfl⟩
  have mN_ := Aside0.mk (by rw [hn_]; exact Nat.le_trans mL_.out hb.size : n24 ≤ n25)
  have mZ_ := Aside0.mk (Nat.le_of_eq hn_ : n25 ≤ w1104.heap.size)
  have xHO81_ := Aside0.mk (show Kd.S (Kd.slice 5 (Kd.int .u8)) 28 w1104 w.heap.size (fun k_ => n24 ≤ k_ ∧ k_ < n25) _ t13 from Kd.S_mono (Kd.S_lower (Kd.S_bound ho0_) (below_size (by (repeat (first | (with_reducible first | exact HB.out | apply below_alloc | apply pw_below_drewN | apply below_drew1 | refine below_set ?_ GE3.out | refine below_set ?_ GE5.out | refine below_set ?_ GE10.out | refine below_set ?_ GE12.out) | exact HB.out))))) (fun k_ hk_ => ⟨Nat.le_trans mL_.out hk_.2.1, by rw [hn_]; exact hk_.2.2.1⟩))
  clear BK3 BK5 BK10 BK12 HO15 HO19 HO23 HO28 HO32 HO37 HO41 HO46 HO51 HO55 HO60 HB HZ
  have BK3 := m0_
  have BK5 := m1_
  have BK10 := m2_
  have BK12 := m3_
  have HO15 := m4_
  have HO19 := m5_
  have HO23 := m6_
  have HO28 := m7_
  have HO32 := m8_
  have HO37 := m9_
  have HO41 := m10_
  have HO46 := m11_
  have HO51 := m12_
  have HO55 := m13_
  have HO60 := m14_
  have HB := mB_
  have HZ := mZ_
  have HN25 := mN_
  have HO81 := xHO81_
  clear m0_ m1_ m2_ m3_ m4_ m5_ m6_ m7_ m8_ m9_ m10_ m11_ m12_ m13_ m14_ mB_ mN_ mZ_ mL_ xHO81_
  (try clear hn_)
  clear hb ho0_
  obtain ⟨Ao81, co81, eo_⟩ := Kd.S_slice HO81.out; subst eo_
  refine hK.out _ _ ⟨(blk_cell BK3.out 0).trans rfl, (blk_cell BK5.out 0).trans rfl⟩ (fun hHeld => ?_)
  clear hK K
  refine norm_ (a' := ?_) ?_ ?_
  rotate_left
  · show Act.put _ (some 117) _ = _
    simp only [Act.put, List.setIfInBounds_toArray, List.set_cons_zero, List.set_cons_succ, i64_w, i32_w]
    rfl
  refine one_ (i := 3) (N := some 119) #[true, true, true, true, true, false, false, false, false, false, false, false] rfl rfl (by kernel_rfl) (by decide) (fun K hK => ?_)
  refine goes_ Try.func24 (by kernel_rfl) rfl #[.slice A1 l1.length c1] (by rfl) rfl rfl (by (try simp only [List.map_toArray, List.map_cons, List.map_nil]); first | done | rfl | (simp only [List.length_drop, List.length_take]; rfl)) ?_
  (with_reducible refine (laws_toWindowS.calls k _ _ l1 t17 _ ?sr0 ?sc0 E5.out).mono ?_)
  (case sr0 => exact Kd.C_below HR1.out (by (repeat (first | (with_reducible first | exact HB.out | apply below_alloc | apply pw_below_drewN | apply below_drew1 | refine below_set ?_ GE3.out | refine below_set ?_ GE5.out | refine below_set ?_ GE10.out | refine below_set ?_ GE12.out) | exact HB.out))))
  (case sc0 => exact HC1.out)
  rintro e w1108 ⟨v26_0, rfl, ho0_, hb⟩
  refine ⟨_, rfl, ?_⟩
  have m0_ := Aside0.mk (blk_below (g := gb3) (o := .cells #[.slice A0_0 l0_0.length c0_0] 24 (0, 0)) (by ((with_reducible repeat (first | refine blk_drewN ?_ _ | refine blk_drew ?_ | refine blk_alloc ?_ _)); exact BK3.out)) hb)
  have m1_ := Aside0.mk (blk_below (g := gb5) (o := .cells #[.slice A2_0 l2_0.length c2_0] 24 (0, 0)) (by ((with_reducible repeat (first | refine blk_drewN ?_ _ | refine blk_drew ?_ | refine blk_alloc ?_ _)); exact BK5.out)) hb)
  have m2_ := Aside0.mk (blk_below (g := gb10) (o := .cells #[.slice Ao32 t13.length co32] 31 (0, 0)) (by ((with_reducible repeat (first | refine blk_drewN ?_ _ | refine blk_drew ?_ | refine blk_alloc ?_ _)); exact BK10.out)) hb)
  have m3_ := Aside0.mk (blk_below (g := gb12) (o := .cells #[.slice Ao41 t21.length co41] 31 (0, 0)) (by ((with_reducible repeat (first | refine blk_drewN ?_ _ | refine blk_drew ?_ | refine blk_alloc ?_ _)); exact BK12.out)) hb)
  have m4_ := Aside0.mk (Kd.S_below (by ((with_reducible repeat (first | apply Kd.S_alloc | apply Kd.S_drewN | apply Kd.S_drew)); exact HO15.out)) hb)
  have m5_ := Aside0.mk (Kd.R_below (by ((with_reducible repeat (first | apply Kd.R_alloc | apply Kd.R_drewN | apply Kd.R_drew)); exact HO19.out)) hb)
  have m6_ := Aside0.mk (Kd.S_below (by ((with_reducible repeat (first | apply Kd.S_alloc | apply Kd.S_drewN | apply Kd.S_drew)); exact HO23.out)) hb)
  have m7_ := Aside0.mk (Kd.R_below (by ((with_reducible repeat (first | apply Kd.R_alloc | apply Kd.R_drewN | apply Kd.R_drew)); exact HO28.out)) hb)
  have m8_ := Aside0.mk (Kd.S_below (by ((with_reducible repeat (first | apply Kd.S_alloc | apply Kd.S_drewN | apply Kd.S_drew)); exact HO32.out)) hb)
  have m9_ := Aside0.mk (Kd.R_below (by ((with_reducible repeat (first | apply Kd.R_alloc | apply Kd.R_drewN | apply Kd.R_drew)); exact HO37.out)) hb)
  have m10_ := Aside0.mk (Kd.S_below (by ((with_reducible repeat (first | apply Kd.S_alloc | apply Kd.S_drewN | apply Kd.S_drew)); exact HO41.out)) hb)
  have m11_ := Aside0.mk (Kd.R_below (by ((with_reducible repeat (first | apply Kd.R_alloc | apply Kd.R_drewN | apply Kd.R_drew)); exact HO46.out)) hb)
  have m12_ := Aside0.mk (Kd.S_below (by ((with_reducible repeat (first | apply Kd.S_alloc | apply Kd.S_drewN | apply Kd.S_drew)); exact HO51.out)) hb)
  have m13_ := Aside0.mk (Kd.R_below (by ((with_reducible repeat (first | apply Kd.R_alloc | apply Kd.R_drewN | apply Kd.R_drew)); exact HO55.out)) hb)
  have m14_ := Aside0.mk (Kd.S_below (by ((with_reducible repeat (first | apply Kd.S_alloc | apply Kd.S_drewN | apply Kd.S_drew)); exact HO60.out)) hb)
  have m15_ := Aside0.mk (Kd.S_below (by ((with_reducible repeat (first | apply Kd.S_alloc | apply Kd.S_drewN | apply Kd.S_drew)); exact HO81.out)) hb)
  have mB_ := Aside0.mk (below_step (by (repeat (first | (with_reducible first | exact HB.out | apply below_alloc | apply pw_below_drewN | apply below_drew1 | refine below_set ?_ GE3.out | refine below_set ?_ GE5.out | refine below_set ?_ GE10.out | refine below_set ?_ GE12.out) | exact HB.out))) hb)
  have mL_ := Aside0.mk (by (repeat (first | exact HZ.out | (with_reducible first | apply sz_alloc | apply sz_drewN | apply sz_drew | apply sz_set))) : n25 ≤ _)
  obtain ⟨n26, hn_⟩ : ∃ n_, n_ = w1108.heap.size := ⟨_, rfl⟩
  have mN_ := Aside0.mk (by rw [hn_]; exact Nat.le_trans mL_.out hb.size : n25 ≤ n26)
  have mZ_ := Aside0.mk (Nat.le_of_eq hn_ : n26 ≤ w1108.heap.size)
  have xHO84_ := Aside0.mk (show Kd.R k33 33 w1108 w.heap.size (fun k_ => n25 ≤ k_ ∧ k_ < n26) _ t17 from Kd.R_mono (Kd.R_lower (Kd.R_bound ho0_) (below_size (by (repeat (first | (with_reducible first | exact HB.out | apply below_alloc | apply pw_below_drewN | apply below_drew1 | refine below_set ?_ GE3.out | refine below_set ?_ GE5.out | refine below_set ?_ GE10.out | refine below_set ?_ GE12.out) | exact HB.out))))) (fun k_ hk_ => ⟨Nat.le_trans mL_.out hk_.2.1, by rw [hn_]; exact hk_.2.2.1⟩))
  clear BK3 BK5 BK10 BK12 HO15 HO19 HO23 HO28 HO32 HO37 HO41 HO46 HO51 HO55 HO60 HO81 HB HZ
  have BK3 := m0_
  have BK5 := m1_
  have BK10 := m2_
  have BK12 := m3_
  have HO15 := m4_
  have HO19 := m5_
  have HO23 := m6_
  have HO28 := m7_
  have HO32 := m8_
  have HO37 := m9_
  have HO41 := m10_
  have HO46 := m11_
  have HO51 := m12_
  have HO55 := m13_
  have HO60 := m14_
  have HO81 := m15_
  have HB := mB_
  have HZ := mZ_
  have HN26 := mN_
  have HO84 := xHO84_
  clear m0_ m1_ m2_ m3_ m4_ m5_ m6_ m7_ m8_ m9_ m10_ m11_ m12_ m13_ m14_ m15_ mB_ mN_ mZ_ mL_ xHO84_
  (try clear hn_)
  clear hb ho0_
  obtain ⟨Ao84, co84, eo_⟩ := Kd.R_slice HO84.out; subst eo_
  refine hK.out _ _ ⟨(blk_cell BK3.out 0).trans rfl, (blk_cell BK5.out 0).trans rfl⟩ (fun hHeld => ?_)
  clear hK K
  refine norm_ (a' := ?_) ?_ ?_
  rotate_left
  · show Act.put _ (some 119) _ = _
    simp only [Act.put, List.setIfInBounds_toArray, List.set_cons_zero, List.set_cons_succ, i64_w, i32_w]
    rfl
  refine one_ (i := 5) (N := some 121) #[true, true, true, true, true, true, false, false, false, false, false, false] rfl rfl (by kernel_rfl) (by decide) (fun K hK => ?_)
  refine goes_ Try.func14 (by kernel_rfl) rfl #[.agg #[.slice A2_0 l2_0.length c2_0]] (by rfl) rfl rfl (by (try simp only [List.map_toArray, List.map_cons, List.map_nil]); first | done | rfl | (simp only [List.length_drop, List.length_take]; rfl)) ?_
  (with_reducible refine (laws_toMemory.calls k _ _ l2_0 t21 _ ?sr0 ?sc0 E6.out).mono ?_)
  (case sr0 => exact Kd.C_below HR2_0.out (by (repeat (first | (with_reducible first | exact HB.out | apply below_alloc | apply pw_below_drewN | apply below_drew1 | refine below_set ?_ GE3.out | refine below_set ?_ GE5.out | refine below_set ?_ GE10.out | refine below_set ?_ GE12.out) | exact HB.out))))
  (case sc0 => exact HC2_0.out)
  rintro e w1112 ⟨v27_0, rfl, ho0_, hb⟩
  refine ⟨_, rfl, ?_⟩
  have m0_ := Aside0.mk (blk_below (g := gb3) (o := .cells #[.slice A0_0 l0_0.length c0_0] 24 (0, 0)) (by ((with_reducible repeat (first | refine blk_drewN ?_ _ | refine blk_drew ?_ | refine blk_alloc ?_ _)); exact BK3.out)) hb)
  have m1_ := Aside0.mk (blk_below (g := gb5) (o := .cells #[.slice A2_0 l2_0.length c2_0] 24 (0, 0)) (by ((with_reducible repeat (first | refine blk_drewN ?_ _ | refine blk_drew ?_ | refine blk_alloc ?_ _)); exact BK5.out)) hb)
  have m2_ := Aside0.mk (blk_below (g := gb10) (o := .cells #[.slice Ao32 t13.length co32] 31 (0, 0)) (by ((with_reducible repeat (first | refine blk_drewN ?_ _ | refine blk_drew ?_ | refine blk_alloc ?_ _)); exact BK10.out)) hb)
  have m3_ := Aside0.mk (blk_below (g := gb12) (o := .cells #[.slice Ao41 t21.length co41] 31 (0, 0)) (by ((with_reducible repeat (first | refine blk_drewN ?_ _ | refine blk_drew ?_ | refine blk_alloc ?_ _)); exact BK12.out)) hb)
  have m4_ := Aside0.mk (Kd.S_below (by ((with_reducible repeat (first | apply Kd.S_alloc | apply Kd.S_drewN | apply Kd.S_drew)); exact HO15.out)) hb)
  have m5_ := Aside0.mk (Kd.R_below (by ((with_reducible repeat (first | apply Kd.R_alloc | apply Kd.R_drewN | apply Kd.R_drew)); exact HO19.out)) hb)
  have m6_ := Aside0.mk (Kd.S_below (by ((with_reducible repeat (first | apply Kd.S_alloc | apply Kd.S_drewN | apply Kd.S_drew)); exact HO23.out)) hb)
  have m7_ := Aside0.mk (Kd.R_below (by ((with_reducible repeat (first | apply Kd.R_alloc | apply Kd.R_drewN | apply Kd.R_drew)); exact HO28.out)) hb)
  have m8_ := Aside0.mk (Kd.S_below (by ((with_reducible repeat (first | apply Kd.S_alloc | apply Kd.S_drewN | apply Kd.S_drew)); exact HO32.out)) hb)
  have m9_ := Aside0.mk (Kd.R_below (by ((with_reducible repeat (first | apply Kd.R_alloc | apply Kd.R_drewN | apply Kd.R_drew)); exact HO37.out)) hb)
  have m10_ := Aside0.mk (Kd.S_below (by ((with_reducible repeat (first | apply Kd.S_alloc | apply Kd.S_drewN | apply Kd.S_drew)); exact HO41.out)) hb)
  have m11_ := Aside0.mk (Kd.R_below (by ((with_reducible repeat (first | apply Kd.R_alloc | apply Kd.R_drewN | apply Kd.R_drew)); exact HO46.out)) hb)
  have m12_ := Aside0.mk (Kd.S_below (by ((with_reducible repeat (first | apply Kd.S_alloc | apply Kd.S_drewN | apply Kd.S_drew)); exact HO51.out)) hb)
  have m13_ := Aside0.mk (Kd.R_below (by ((with_reducible repeat (first | apply Kd.R_alloc | apply Kd.R_drewN | apply Kd.R_drew)); exact HO55.out)) hb)
  have m14_ := Aside0.mk (Kd.S_below (by ((with_reducible repeat (first | apply Kd.S_alloc | apply Kd.S_drewN | apply Kd.S_drew)); exact HO60.out)) hb)
  have m15_ := Aside0.mk (Kd.S_below (by ((with_reducible repeat (first | apply Kd.S_alloc | apply Kd.S_drewN | apply Kd.S_drew)); exact HO81.out)) hb)
  have m16_ := Aside0.mk (Kd.R_below (by ((with_reducible repeat (first | apply Kd.R_alloc | apply Kd.R_drewN | apply Kd.R_drew)); exact HO84.out)) hb)
  have mB_ := Aside0.mk (below_step (by (repeat (first | (with_reducible first | exact HB.out | apply below_alloc | apply pw_below_drewN | apply below_drew1 | refine below_set ?_ GE3.out | refine below_set ?_ GE5.out | refine below_set ?_ GE10.out | refine below_set ?_ GE12.out) | exact HB.out))) hb)
  have mL_ := Aside0.mk (by (repeat (first | exact HZ.out | (with_reducible first | apply sz_alloc | apply sz_drewN | apply sz_drew | apply sz_set))) : n26 ≤ _)
  obtain ⟨n27, hn_⟩ : ∃ n_, n_ = w1112.heap.size := ⟨_, rfl⟩
  have mN_ := Aside0.mk (by rw [hn_]; exact Nat.le_trans mL_.out hb.size : n26 ≤ n27)
  have mZ_ := Aside0.mk (Nat.le_of_eq hn_ : n27 ≤ w1112.heap.size)
  have xHO87_ := Aside0.mk (show Kd.S (Kd.slice 5 (Kd.int .u8)) 28 w1112 w.heap.size (fun k_ => n26 ≤ k_ ∧ k_ < n27) _ t21 from Kd.S_mono (Kd.S_lower (Kd.S_bound ho0_) (below_size (by (repeat (first | (with_reducible first | exact HB.out | apply below_alloc | apply pw_below_drewN | apply below_drew1 | refine below_set ?_ GE3.out | refine below_set ?_ GE5.out | refine below_set ?_ GE10.out | refine below_set ?_ GE12.out) | exact HB.out))))) (fun k_ hk_ => ⟨Nat.le_trans mL_.out hk_.2.1, by rw [hn_]; exact hk_.2.2.1⟩))
  clear BK3 BK5 BK10 BK12 HO15 HO19 HO23 HO28 HO32 HO37 HO41 HO46 HO51 HO55 HO60 HO81 HO84 HB HZ
  have BK3 := m0_
  have BK5 := m1_
  have BK10 := m2_
  have BK12 := m3_
  have HO15 := m4_
  have HO19 := m5_
  have HO23 := m6_
  have HO28 := m7_
  have HO32 := m8_
  have HO37 := m9_
  have HO41 := m10_
  have HO46 := m11_
  have HO51 := m12_
  have HO55 := m13_
  have HO60 := m14_
  have HO81 := m15_
  have HO84 := m16_
  have HB := mB_
  have HZ := mZ_
  have HN27 := mN_
  have HO87 := xHO87_
  clear m0_ m1_ m2_ m3_ m4_ m5_ m6_ m7_ m8_ m9_ m10_ m11_ m12_ m13_ m14_ m15_ m16_ mB_ mN_ mZ_ mL_ xHO87_
  (try clear hn_)
  clear hb ho0_
  obtain ⟨Ao87, co87, eo_⟩ := Kd.S_slice HO87.out; subst eo_
  refine hK.out _ _ ⟨(blk_cell BK3.out 0).trans rfl, (blk_cell BK5.out 0).trans rfl⟩ (fun hHeld => ?_)
  clear hK K
  refine norm_ (a' := ?_) ?_ ?_
  rotate_left
  · show Act.put _ (some 121) _ = _
    simp only [Act.put, List.setIfInBounds_toArray, List.set_cons_zero, List.set_cons_succ, i64_w, i32_w]
    rfl
  refine one_ (i := 6) (N := some 122) #[true, true, true, true, true, true, true, false, false, false, false, false] rfl rfl (by kernel_rfl) (by decide) (fun K hK => ?_)
  refine goes_ Try.func41 (by kernel_rfl) rfl #[.agg #[.slice Ao81 t13.length co81], .slice Ao84 t17.length co84, .agg #[.slice Ao87 t21.length co87]] (by rfl) rfl rfl (by (try simp only [List.map_toArray, List.map_cons, List.map_nil]); first | done | rfl | (simp only [List.length_drop, List.length_take]; rfl)) ?_
  (with_reducible refine (impl_ChangedSince.calls k _ _ t13 _ _ t17 _ _ t21 g24 ok25 _ ?sr0 ?sc0 ?sr1 ?sc1 ?sr2 ?sc2 E11.out).mono ?_)
  (case sr0 => repeat (first | exact (Kd.S_reads' HO81.out).2.2 | (with_reducible refine Kd.C_alloc ?_ _) | (with_reducible refine Kd.C_drewN ?_ _) | (with_reducible refine Kd.C_drew ?_)))
  (case sc0 => first | exact (Kd.S_reads' HO81.out).2.1 | exact Nat.le_trans (Nat.le_of_eq (Kd.S_reads' HO81.out).1.symm) (Kd.S_reads' HO81.out).2.1)
  (case sr1 => repeat (first | exact (Kd.R_reads' HO84.out).2.2 | (with_reducible refine Kd.C_alloc ?_ _) | (with_reducible refine Kd.C_drewN ?_ _) | (with_reducible refine Kd.C_drew ?_)))
  (case sc1 => first | exact (Kd.R_reads' HO84.out).2.1 | exact Nat.le_trans (Nat.le_of_eq (Kd.R_reads' HO84.out).1.symm) (Kd.R_reads' HO84.out).2.1)
  (case sr2 => repeat (first | exact (Kd.S_reads' HO87.out).2.2 | (with_reducible refine Kd.C_alloc ?_ _) | (with_reducible refine Kd.C_drewN ?_ _) | (with_reducible refine Kd.C_drew ?_)))
  (case sc2 => first | exact (Kd.S_reads' HO87.out).2.1 | exact Nat.le_trans (Nat.le_of_eq (Kd.S_reads' HO87.out).1.symm) (Kd.S_reads' HO87.out).2.1)
  rintro e w1115 ⟨v28_0, rfl, ho0_, hb⟩
  refine ⟨_, rfl, ?_⟩
  have m0_ := Aside0.mk (blk_below (g := gb3) (o := .cells #[.slice A0_0 l0_0.length c0_0] 24 (0, 0)) (by ((with_reducible repeat (first | refine blk_drewN ?_ _ | refine blk_drew ?_ | refine blk_alloc ?_ _)); exact BK3.out)) hb)
  have m1_ := Aside0.mk (blk_below (g := gb5) (o := .cells #[.slice A2_0 l2_0.length c2_0] 24 (0, 0)) (by ((with_reducible repeat (first | refine blk_drewN ?_ _ | refine blk_drew ?_ | refine blk_alloc ?_ _)); exact BK5.out)) hb)
  have m2_ := Aside0.mk (blk_below (g := gb10) (o := .cells #[.slice Ao32 t13.length co32] 31 (0, 0)) (by ((with_reducible repeat (first | refine blk_drewN ?_ _ | refine blk_drew ?_ | refine blk_alloc ?_ _)); exact BK10.out)) hb)
  have m3_ := Aside0.mk (blk_below (g := gb12) (o := .cells #[.slice Ao41 t21.length co41] 31 (0, 0)) (by ((with_reducible repeat (first | refine blk_drewN ?_ _ | refine blk_drew ?_ | refine blk_alloc ?_ _)); exact BK12.out)) hb)
  have m4_ := Aside0.mk (Kd.S_below (by ((with_reducible repeat (first | apply Kd.S_alloc | apply Kd.S_drewN | apply Kd.S_drew)); exact HO15.out)) hb)
  have m5_ := Aside0.mk (Kd.R_below (by ((with_reducible repeat (first | apply Kd.R_alloc | apply Kd.R_drewN | apply Kd.R_drew)); exact HO19.out)) hb)
  have m6_ := Aside0.mk (Kd.S_below (by ((with_reducible repeat (first | apply Kd.S_alloc | apply Kd.S_drewN | apply Kd.S_drew)); exact HO23.out)) hb)
  have m7_ := Aside0.mk (Kd.R_below (by ((with_reducible repeat (first | apply Kd.R_alloc | apply Kd.R_drewN | apply Kd.R_drew)); exact HO28.out)) hb)
  have m8_ := Aside0.mk (Kd.S_below (by ((with_reducible repeat (first | apply Kd.S_alloc | apply Kd.S_drewN | apply Kd.S_drew)); exact HO32.out)) hb)
  have m9_ := Aside0.mk (Kd.R_below (by ((with_reducible repeat (first | apply Kd.R_alloc | apply Kd.R_drewN | apply Kd.R_drew)); exact HO37.out)) hb)
  have m10_ := Aside0.mk (Kd.S_below (by ((with_reducible repeat (first | apply Kd.S_alloc | apply Kd.S_drewN | apply Kd.S_drew)); exact HO41.out)) hb)
  have m11_ := Aside0.mk (Kd.R_below (by ((with_reducible repeat (first | apply Kd.R_alloc | apply Kd.R_drewN | apply Kd.R_drew)); exact HO46.out)) hb)
  have m12_ := Aside0.mk (Kd.S_below (by ((with_reducible repeat (first | apply Kd.S_alloc | apply Kd.S_drewN | apply Kd.S_drew)); exact HO51.out)) hb)
  have m13_ := Aside0.mk (Kd.R_below (by ((with_reducible repeat (first | apply Kd.R_alloc | apply Kd.R_drewN | apply Kd.R_drew)); exact HO55.out)) hb)
  have m14_ := Aside0.mk (Kd.S_below (by ((with_reducible repeat (first | apply Kd.S_alloc | apply Kd.S_drewN | apply Kd.S_drew)); exact HO60.out)) hb)
  have m15_ := Aside0.mk (Kd.S_below (by ((with_reducible repeat (first | apply Kd.S_alloc | apply Kd.S_drewN | apply Kd.S_drew)); exact HO81.out)) hb)
  have m16_ := Aside0.mk (Kd.R_below (by ((with_reducible repeat (first | apply Kd.R_alloc | apply Kd.R_drewN | apply Kd.R_drew)); exact HO84.out)) hb)
  have m17_ := Aside0.mk (Kd.S_below (by ((with_reducible repeat (first | apply Kd.S_alloc | apply Kd.S_drewN | apply Kd.S_drew)); exact HO87.out)) hb)
  have mB_ := Aside0.mk (below_step (by (repeat (first | (with_reducible first | exact HB.out | apply below_alloc | apply pw_below_drewN | apply below_drew1 | refine below_set ?_ GE3.out | refine below_set ?_ GE5.out | refine below_set ?_ GE10.out | refine below_set ?_ GE12.out) | exact HB.out))) hb)
  have mL_ := Aside0.mk (by (repeat (first | exact HZ.out | (with_reducible first | apply sz_alloc | apply sz_drewN | apply sz_drew | apply sz_set))) : n27 ≤ _)
  obtain ⟨n28, hn_⟩ : ∃ n_, n_ = w1115.heap.size := ⟨_, rfl⟩
  have mN_ := Aside0.mk (by rw [hn_]; exact Nat.le_trans mL_.out hb.size : n27 ≤ n28)
  have mZ_ := Aside0.mk (Nat.le_of_eq hn_ : n28 ≤ w1115.heap.size)
  have xHO89_ := Aside0.mk (show Kd.R (Kd.int .i64) 3 w1115 w.heap.size (fun k_ => n27 ≤ k_ ∧ k_ < n28) _ g24 from Kd.R_mono (Kd.R_lower (Kd.R_bound ho0_) (below_size (by (repeat (first | (with_reducible first | exact HB.out | apply below_alloc | apply pw_below_drewN | apply below_drew1 | refine below_set ?_ GE3.out | refine below_set ?_ GE5.out | refine below_set ?_ GE10.out | refine below_set ?_ GE12.out) | exact HB.out))))) (fun k_ hk_ => ⟨Nat.le_trans mL_.out hk_.2.1, by rw [hn_]; exact hk_.2.2.1⟩))
  clear BK3 BK5 BK10 BK12 HO15 HO19 HO23 HO28 HO32 HO37 HO41 HO46 HO51 HO55 HO60 HO81 HO84 HO87 HB HZ
  have BK3 := m0_
  have BK5 := m1_
  have BK10 := m2_
  have BK12 := m3_
  have HO15 := m4_
  have HO19 := m5_
  have HO23 := m6_
  have HO28 := m7_
  have HO32 := m8_
  have HO37 := m9_
  have HO41 := m10_
  have HO46 := m11_
  have HO51 := m12_
  have HO55 := m13_
  have HO60 := m14_
  have HO81 := m15_
  have HO84 := m16_
  have HO87 := m17_
  have HB := mB_
  have HZ := mZ_
  have HN28 := mN_
  have HO89 := xHO89_
  clear m0_ m1_ m2_ m3_ m4_ m5_ m6_ m7_ m8_ m9_ m10_ m11_ m12_ m13_ m14_ m15_ m16_ m17_ mB_ mN_ mZ_ mL_ xHO89_
  (try clear hn_)
  clear hb ho0_
  obtain ⟨Ao89, co89, eo_⟩ := Kd.R_slice HO89.out; subst eo_
  refine hK.out _ _ ⟨(blk_cell BK3.out 0).trans rfl, (blk_cell BK5.out 0).trans rfl⟩ (fun hHeld => ?_)
  clear hK K
  refine norm_ (a' := ?_) ?_ ?_
  rotate_left
  · show Act.put _ (some 122) _ = _
    simp only [Act.put, List.setIfInBounds_toArray, List.set_cons_zero, List.set_cons_succ, i64_w, i32_w]
    rfl
  refine pure_ (i := 7) (N := some 115) (v := ?_) (a' := ?_) #[true, true, true, true, true, true, true, true, false, false, false, false] rfl rfl (by kernel_rfl) (fun _ _ _ h => h) (Or.inl ⟨by rfl, ?_⟩) ?_ ?_
  rotate_left
  · intro w'
    go_simp
    with_reducible rfl
  rotate_left
  · simp only [Act.put, List.setIfInBounds_toArray, List.set_cons_zero, List.set_cons_succ, i64_w, i32_w]
    rfl
  refine pure_ (i := 8) (N := some 123) (v := ?_) (a' := ?_) #[true, true, true, true, true, true, true, true, true, false, false, false] rfl rfl (by kernel_rfl) (fun _ _ _ h => h) (Or.inl ⟨by rfl, ?_⟩) ?_ ?_
  rotate_left
  · intro w'
    go_simp
    with_reducible rfl
  rotate_left
  · simp only [Act.put, List.setIfInBounds_toArray, List.set_cons_zero, List.set_cons_succ, i64_w, i32_w]
    rfl
  refine pure_ (i := 9) (N := some 124) (v := ?_) (a' := ?_) #[true, true, true, true, true, true, true, true, true, true, false, false] rfl rfl (by kernel_rfl) (fun _ _ _ h => h) (Or.inl ⟨by rfl, ?_⟩) ?_ ?_
  rotate_left
  · intro w'
    go_simp
    with_reducible rfl
  rotate_left
  · simp only [Act.put, List.setIfInBounds_toArray, List.set_cons_zero, List.set_cons_succ, i64_w, i32_w]
    rfl
  refine pure_ (i := 10) (N := some 18) (v := ?_) (a' := ?_) #[true, true, true, true, true, true, true, true, true, true, true, false] rfl rfl (by kernel_rfl) (fun _ _ _ h => h) (Or.inl ⟨by rfl, ?_⟩) ?_ ?_
  rotate_left
  · intro w'
    go_simp
    with_reducible rfl
  rotate_left
  · simp only [Act.put, List.setIfInBounds_toArray, List.set_cons_zero, List.set_cons_succ, i64_w, i32_w]
    rfl
  refine pure_ (i := 11) (N := some 19) (v := ?_) (a' := ?_) #[true, true, true, true, true, true, true, true, true, true, true, true] rfl rfl (by kernel_rfl) (fun _ _ _ h => h) (Or.inl ⟨by rfl, ?_⟩) ?_ ?_
  rotate_left
  · intro w'
    go_simp
    with_reducible rfl
  rotate_left
  · simp only [Act.put, List.setIfInBounds_toArray, List.set_cons_zero, List.set_cons_succ, i64_w, i32_w]
    rfl
  refine done_ (by kernel_rfl) ?_
  go_wp2_with (first | ((with_reducible refine gate_callee (f := 29) rfl ?_); refine goesL_ (some 127) rfl rfl Try.func29 (by kernel_rfl) rfl #[.slice Ao89 g24.length co89, .slice Ao28 s26.length co28] rfl (by (try simp only [List.map_toArray, List.map_cons, List.map_nil]); first | done | rfl) ?_; (with_reducible refine (laws_eqIntS.calls k _ _ g24 _ _ s26 true _ ?sr0 ?sc0 ?sr1 ?sc1 E12.out).mono ?_); (case sr0 => repeat (first | exact (Kd.R_reads' HO89.out).2.2 | (with_reducible refine Kd.C_alloc ?_ _) | (with_reducible refine Kd.C_drewN ?_ _) | (with_reducible refine Kd.C_drew ?_))); (case sc0 => first | exact (Kd.R_reads' HO89.out).2.1 | exact Nat.le_trans (Nat.le_of_eq (Kd.R_reads' HO89.out).1.symm) (Kd.R_reads' HO89.out).2.1); (case sr1 => repeat (first | exact (Kd.R_reads' HO28.out).2.2 | (with_reducible refine Kd.C_alloc ?_ _) | (with_reducible refine Kd.C_drewN ?_ _) | (with_reducible refine Kd.C_drew ?_))); (case sc1 => first | exact (Kd.R_reads' HO28.out).2.1 | exact Nat.le_trans (Nat.le_of_eq (Kd.R_reads' HO28.out).1.symm) (Kd.R_reads' HO28.out).2.1); rintro e w1118 ⟨rfl, hd_⟩; have hb := hd_.below; clear hd_; refine ⟨_, rfl, ?_⟩; have m0_ := Aside0.mk (blk_below (g := gb3) (o := .cells #[.slice A0_0 l0_0.length c0_0] 24 (0, 0)) (by ((with_reducible repeat (first | refine blk_drewN ?_ _ | refine blk_drew ?_ | refine blk_alloc ?_ _)); exact BK3.out)) hb); have m1_ := Aside0.mk (blk_below (g := gb5) (o := .cells #[.slice A2_0 l2_0.length c2_0] 24 (0, 0)) (by ((with_reducible repeat (first | refine blk_drewN ?_ _ | refine blk_drew ?_ | refine blk_alloc ?_ _)); exact BK5.out)) hb); have m2_ := Aside0.mk (blk_below (g := gb10) (o := .cells #[.slice Ao32 t13.length co32] 31 (0, 0)) (by ((with_reducible repeat (first | refine blk_drewN ?_ _ | refine blk_drew ?_ | refine blk_alloc ?_ _)); exact BK10.out)) hb); have m3_ := Aside0.mk (blk_below (g := gb12) (o := .cells #[.slice Ao41 t21.length co41] 31 (0, 0)) (by ((with_reducible repeat (first | refine blk_drewN ?_ _ | refine blk_drew ?_ | refine blk_alloc ?_ _)); exact BK12.out)) hb); have m4_ := Aside0.mk (Kd.S_below (by ((with_reducible repeat (first | apply Kd.S_alloc | apply Kd.S_drewN | apply Kd.S_drew)); exact HO15.out)) hb); have m5_ := Aside0.mk (Kd.R_below (by ((with_reducible repeat (first | apply Kd.R_alloc | apply Kd.R_drewN | apply Kd.R_drew)); exact HO19.out)) hb); have m6_ := Aside0.mk (Kd.S_below (by ((with_reducible repeat (first | apply Kd.S_alloc | apply Kd.S_drewN | apply Kd.S_drew)); exact HO23.out)) hb); have m7_ := Aside0.mk (Kd.R_below (by ((with_reducible repeat (first | apply Kd.R_alloc | apply Kd.R_drewN | apply Kd.R_drew)); exact HO28.out)) hb); have m8_ := Aside0.mk (Kd.S_below (by ((with_reducible repeat (first | apply Kd.S_alloc | apply Kd.S_drewN | apply Kd.S_drew)); exact HO32.out)) hb); have m9_ := Aside0.mk (Kd.R_below (by ((with_reducible repeat (first | apply Kd.R_alloc | apply Kd.R_drewN | apply Kd.R_drew)); exact HO37.out)) hb); have m10_ := Aside0.mk (Kd.S_below (by ((with_reducible repeat (first | apply Kd.S_alloc | apply Kd.S_drewN | apply Kd.S_drew)); exact HO41.out)) hb); have m11_ := Aside0.mk (Kd.R_below (by ((with_reducible repeat (first | apply Kd.R_alloc | apply Kd.R_drewN | apply Kd.R_drew)); exact HO46.out)) hb); have m12_ := Aside0.mk (Kd.S_below (by ((with_reducible repeat (first | apply Kd.S_alloc | apply Kd.S_drewN | apply Kd.S_drew)); exact HO51.out)) hb); have m13_ := Aside0.mk (Kd.R_below (by ((with_reducible repeat (first | apply Kd.R_alloc | apply Kd.R_drewN | apply Kd.R_drew)); exact HO55.out)) hb); have m14_ := Aside0.mk (Kd.S_below (by ((with_reducible repeat (first | apply Kd.S_alloc | apply Kd.S_drewN | apply Kd.S_drew)); exact HO60.out)) hb); have m15_ := Aside0.mk (Kd.S_below (by ((with_reducible repeat (first | apply Kd.S_alloc | apply Kd.S_drewN | apply Kd.S_drew)); exact HO81.out)) hb); have m16_ := Aside0.mk (Kd.R_below (by ((with_reducible repeat (first | apply Kd.R_alloc | apply Kd.R_drewN | apply Kd.R_drew)); exact HO84.out)) hb); have m17_ := Aside0.mk (Kd.S_below (by ((with_reducible repeat (first | apply Kd.S_alloc | apply Kd.S_drewN | apply Kd.S_drew)); exact HO87.out)) hb); have m18_ := Aside0.mk (Kd.R_below (by ((with_reducible repeat (first | apply Kd.R_alloc | apply Kd.R_drewN | apply Kd.R_drew)); exact HO89.out)) hb); have mB_ := Aside0.mk (below_step (by (repeat (first | (with_reducible first | exact HB.out | apply below_alloc | apply pw_below_drewN | apply below_drew1 | refine below_set ?_ GE3.out | refine below_set ?_ GE5.out | refine below_set ?_ GE10.out | refine below_set ?_ GE12.out) | exact HB.out))) hb); have mL_ := Aside0.mk (by (repeat (first | exact HZ.out | (with_reducible first | apply sz_alloc | apply sz_drewN | apply sz_drew | apply sz_set))) : n28 ≤ _); obtain ⟨n29, hn_⟩ : ∃ n_, n_ = w1118.heap.size := ⟨_, rfl⟩; have mN_ := Aside0.mk (by rw [hn_]; exact Nat.le_trans mL_.out hb.size : n28 ≤ n29); have mZ_ := Aside0.mk (Nat.le_of_eq hn_ : n29 ≤ w1118.heap.size); clear BK3 BK5 BK10 BK12 HO15 HO19 HO23 HO28 HO32 HO37 HO41 HO46 HO51 HO55 HO60 HO81 HO84 HO87 HO89 HB HZ; have BK3 := m0_; have BK5 := m1_; have BK10 := m2_; have BK12 := m3_; have HO15 := m4_; have HO19 := m5_; have HO23 := m6_; have HO28 := m7_; have HO32 := m8_; have HO37 := m9_; have HO41 := m10_; have HO46 := m11_; have HO51 := m12_; have HO55 := m13_; have HO60 := m14_; have HO81 := m15_; have HO84 := m16_; have HO87 := m17_; have HO89 := m18_; have HB := mB_; have HZ := mZ_; have HN29 := mN_; clear m0_ m1_ m2_ m3_ m4_ m5_ m6_ m7_ m8_ m9_ m10_ m11_ m12_ m13_ m14_ m15_ m16_ m17_ m18_ mB_ mN_ mZ_ mL_; (try clear hn_); clear hb) | ((with_reducible refine gate_callee (f := 32) rfl ?_); refine goesL_ (some 136) rfl rfl Try.func32 (by kernel_rfl) rfl #[.slice Ao46 y75.length co46, .int .i64 1] rfl (by (try simp only [List.map_toArray, List.map_cons, List.map_nil]); first | done | (rw [show g24.length = y75.length from (Kd.R_reads' HO46.out).1] <;> rfl) | rfl) ?_; (with_reducible refine (laws_heldIntS.calls k _ _ y75 1 m74 _ ?sr0 ?sc0 E24.out).mono ?_); (case sr0 => repeat (first | exact (Kd.R_reads' HO46.out).2.2 | (with_reducible refine Kd.C_alloc ?_ _) | (with_reducible refine Kd.C_drewN ?_ _) | (with_reducible refine Kd.C_drew ?_))); (case sc0 => first | exact (Kd.R_reads' HO46.out).2.1 | exact Nat.le_trans (Nat.le_of_eq (Kd.R_reads' HO46.out).1.symm) (Kd.R_reads' HO46.out).2.1); rintro e w1120 ⟨rfl, hd_⟩; have hb := hd_.below; clear hd_; refine ⟨_, rfl, ?_⟩; have m0_ := Aside0.mk (blk_below (g := gb3) (o := .cells #[.slice A0_0 l0_0.length c0_0] 24 (0, 0)) (by ((with_reducible repeat (first | refine blk_drewN ?_ _ | refine blk_drew ?_ | refine blk_alloc ?_ _)); exact BK3.out)) hb); have m1_ := Aside0.mk (blk_below (g := gb5) (o := .cells #[.slice A2_0 l2_0.length c2_0] 24 (0, 0)) (by ((with_reducible repeat (first | refine blk_drewN ?_ _ | refine blk_drew ?_ | refine blk_alloc ?_ _)); exact BK5.out)) hb); have m2_ := Aside0.mk (blk_below (g := gb10) (o := .cells #[.slice Ao32 t13.length co32] 31 (0, 0)) (by ((with_reducible repeat (first | refine blk_drewN ?_ _ | refine blk_drew ?_ | refine blk_alloc ?_ _)); exact BK10.out)) hb); have m3_ := Aside0.mk (blk_below (g := gb12) (o := .cells #[.slice Ao41 t21.length co41] 31 (0, 0)) (by ((with_reducible repeat (first | refine blk_drewN ?_ _ | refine blk_drew ?_ | refine blk_alloc ?_ _)); exact BK12.out)) hb); have m4_ := Aside0.mk (Kd.S_below (by ((with_reducible repeat (first | apply Kd.S_alloc | apply Kd.S_drewN | apply Kd.S_drew)); exact HO15.out)) hb); have m5_ := Aside0.mk (Kd.R_below (by ((with_reducible repeat (first | apply Kd.R_alloc | apply Kd.R_drewN | apply Kd.R_drew)); exact HO19.out)) hb); have m6_ := Aside0.mk (Kd.S_below (by ((with_reducible repeat (first | apply Kd.S_alloc | apply Kd.S_drewN | apply Kd.S_drew)); exact HO23.out)) hb); have m7_ := Aside0.mk (Kd.R_below (by ((with_reducible repeat (first | apply Kd.R_alloc | apply Kd.R_drewN | apply Kd.R_drew)); exact HO28.out)) hb); have m8_ := Aside0.mk (Kd.S_below (by ((with_reducible repeat (first | apply Kd.S_alloc | apply Kd.S_drewN | apply Kd.S_drew)); exact HO32.out)) hb); have m9_ := Aside0.mk (Kd.R_below (by ((with_reducible repeat (first | apply Kd.R_alloc | apply Kd.R_drewN | apply Kd.R_drew)); exact HO37.out)) hb); have m10_ := Aside0.mk (Kd.S_below (by ((with_reducible repeat (first | apply Kd.S_alloc | apply Kd.S_drewN | apply Kd.S_drew)); exact HO41.out)) hb); have m11_ := Aside0.mk (Kd.R_below (by ((with_reducible repeat (first | apply Kd.R_alloc | apply Kd.R_drewN | apply Kd.R_drew)); exact HO46.out)) hb); have m12_ := Aside0.mk (Kd.S_below (by ((with_reducible repeat (first | apply Kd.S_alloc | apply Kd.S_drewN | apply Kd.S_drew)); exact HO51.out)) hb); have m13_ := Aside0.mk (Kd.R_below (by ((with_reducible repeat (first | apply Kd.R_alloc | apply Kd.R_drewN | apply Kd.R_drew)); exact HO55.out)) hb); have m14_ := Aside0.mk (Kd.S_below (by ((with_reducible repeat (first | apply Kd.S_alloc | apply Kd.S_drewN | apply Kd.S_drew)); exact HO60.out)) hb); have m15_ := Aside0.mk (Kd.S_below (by ((with_reducible repeat (first | apply Kd.S_alloc | apply Kd.S_drewN | apply Kd.S_drew)); exact HO81.out)) hb); have m16_ := Aside0.mk (Kd.R_below (by ((with_reducible repeat (first | apply Kd.R_alloc | apply Kd.R_drewN | apply Kd.R_drew)); exact HO84.out)) hb); have m17_ := Aside0.mk (Kd.S_below (by ((with_reducible repeat (first | apply Kd.S_alloc | apply Kd.S_drewN | apply Kd.S_drew)); exact HO87.out)) hb); have m18_ := Aside0.mk (Kd.R_below (by ((with_reducible repeat (first | apply Kd.R_alloc | apply Kd.R_drewN | apply Kd.R_drew)); exact HO89.out)) hb); have mB_ := Aside0.mk (below_step (by (repeat (first | (with_reducible first | exact HB.out | apply below_alloc | apply pw_below_drewN | apply below_drew1 | refine below_set ?_ GE3.out | refine below_set ?_ GE5.out | refine below_set ?_ GE10.out | refine below_set ?_ GE12.out) | exact HB.out))) hb); have mL_ := Aside0.mk (by (repeat (first | exact HZ.out | (with_reducible first | apply sz_alloc | apply sz_drewN | apply sz_drew | apply sz_set))) : n29 ≤ _); obtain ⟨n30, hn_⟩ : ∃ n_, n_ = w1120.heap.size := ⟨_, rfl⟩; have mN_ := Aside0.mk (by rw [hn_]; exact Nat.le_trans mL_.out hb.size : n29 ≤ n30); have mZ_ := Aside0.mk (Nat.le_of_eq hn_ : n30 ≤ w1120.heap.size); clear BK3 BK5 BK10 BK12 HO15 HO19 HO23 HO28 HO32 HO37 HO41 HO46 HO51 HO55 HO60 HO81 HO84 HO87 HO89 HB HZ; have BK3 := m0_; have BK5 := m1_; have BK10 := m2_; have BK12 := m3_; have HO15 := m4_; have HO19 := m5_; have HO23 := m6_; have HO28 := m7_; have HO32 := m8_; have HO37 := m9_; have HO41 := m10_; have HO46 := m11_; have HO51 := m12_; have HO55 := m13_; have HO60 := m14_; have HO81 := m15_; have HO84 := m16_; have HO87 := m17_; have HO89 := m18_; have HB := mB_; have HZ := mZ_; have HN30 := mN_; clear m0_ m1_ m2_ m3_ m4_ m5_ m6_ m7_ m8_ m9_ m10_ m11_ m12_ m13_ m14_ m15_ m16_ m17_ m18_ mB_ mN_ mZ_ mL_; (try clear hn_); clear hb))
  go_ret
  exact ⟨rfl, by (repeat (first | (with_reducible first | exact HB.out | apply below_alloc | apply pw_below_drewN | apply below_drew1 | refine below_set ?_ GE3.out | refine below_set ?_ GE5.out | refine below_set ?_ GE10.out | refine below_set ?_ GE12.out) | exact HB.out))⟩
end Go.Proofs.Ytaoffejflichjaa.P
end
section
namespace Go.Proofs.Ytaoffejflichjaa.P
open Go.RowKit Go.Deep Go.Joins Go.WideShapes Go.ChangeShapes Go.ChangeAt Go.Proofs.YtaoffejflichjaaW.PrintWords Go.Proofs.YtaoffejflichjaaW.PrintLast Go.Proofs.YtaoffejflichjaaW.PrintMore
set_option linter.unusedVariables false
set_option linter.unusedSectionVars false
section
variable {H : Type} {enc : TypeId × Value → H} {P : Program} {w : World} {base : Nat} {spare : Nat → Bool} {held : Bool}
theorem opn_int {t : TypeId} {k : IntKind} {n : Nat} {cs : List Value} {x : DataW H × List MemPlace} (ht : P.underlying t = some (.int k)) (h : DataW.trod enc P w base spare held n t cs = some x) :
    ∃ a : Int, (Kd.int k).K w a cs ∧ (Lit.int k a).wf = true := by
  obtain ⟨a, e, _, hw⟩ := DataW.trod_int ht h
  exact ⟨a, e, hw⟩
theorem opn_slice {α : Type} [Inhabited α] {d : Kd α} {Q : α → Prop} {t e : TypeId} {n : Nat} {cs : List Value} {x : DataW H × List MemPlace} (ht : P.underlying t = some (.slice e)) (hsz : P.cellsOf e = d.sz)
    (hel : ∀ n cs y, DataW.trod enc P w base spare held n e cs = some y → ∃ a, d.K w a cs ∧ Q a) (h : DataW.trod enc P w base spare held n t cs = some x) :
    ∃ l : List α, (Kd.slice e d).K w l cs ∧ (l.length ≤ 9223372036854775807 ∧ ∀ a ∈ l, Q a) := by
  rcases open_slice ht h with ⟨rfl, _⟩ | ⟨a, len, cap, m, n', D, Pl, rfl, hb, hl, hm, hmm, rfl, hx⟩
  · exact ⟨[], ⟨none, 0, rfl, Nat.le_refl _, Kd.C_nil d w⟩, by simp, by simp⟩
  · have hlm : len ≤ m := by rw [hmm]; split <;> omega
    have hmax : len ≤ 9223372036854775807 := by simp only [maxLen] at hm; omega
    have each : ∀ i, i < len → ∃ y : α, (∃ c, c.length = d.sz ∧ d.K w y c ∧ ∀ j u, c[j]? = some u → w.cell? (a.add (i * d.sz + j)) = some u) ∧ Q y := by
      intro i hi
      obtain ⟨cs', h1, h2⟩ := hx i (by omega)
      obtain ⟨y, hK, hQ⟩ := hel _ _ _ h2
      obtain ⟨_, hlen, hc⟩ := World.cells?_some h1
      rw [hsz] at hlen hc
      refine ⟨y, ⟨cs', hlen, hK, fun j u hu => ?_⟩, hQ⟩
      have hj : j < d.sz := by rw [← hlen]; exact (List.getElem?_eq_some_iff.1 hu).1
      rw [← hu, ← hc j hj, Addr.add_add]
    obtain ⟨f, hf⟩ := choose_lt each
    have hlen : ((List.range len).map f).length = len := by simp
    refine ⟨(List.range len).map f, ⟨some a, cap, by rw [hlen], by rw [hlen]; exact hl, rfl, by rw [hlen]; exact hmax, fun _ => ⟨a, rfl, fun j p hj => ?_⟩⟩, by rw [hlen]; exact hmax, fun y hy => ?_⟩
    · have hjl : j < len := by have := (List.getElem?_eq_some_iff.1 hj).1; omega
      have hp : f j = p := by simpa [List.getElem?_range hjl] using hj
      subst hp
      obtain ⟨c, h1, h2, h3⟩ := (hf j hjl).1
      exact ⟨c, h1, h2, h3⟩
    · obtain ⟨i, hi, rfl⟩ := List.mem_map.1 hy
      exact (hf i (List.mem_range.1 hi)).2
theorem byval1 {r : Reach} {b0 : Nat} {t : TypeId} {f0 : Field} {v : Value} {d : DataW H} {p : List MemPlace} (hs : P.underlying t = some (.struct #[f0])) (hone : oneCellFields P #[f0] = true) (hC : P.cellsOf t = 1)
    (hv : Value.okWide P w r b0 t v) (h : DataW.Trod enc P w base spare held t v d p) :
    ∃ (v0 : Value) (y0 : DataW H × List MemPlace) (n : Nat), v = .agg #[v0] ∧ DataW.trod enc P w base spare held n f0.type [v0] = some y0 := by
  obtain ⟨cs, rfl, hsz⟩ := okWide_struct hs hv
  obtain ⟨c0, rfl⟩ : ∃ c0, cs = #[c0] := by
    obtain ⟨l⟩ := cs
    match l, hsz.trans hC with
    | [c0], _ => exact ⟨c0, rfl⟩
  obtain ⟨fuel, hf⟩ := h
  obtain ⟨y0, n, _, _, h0⟩ := trod_struct1 hs hf
  obtain ⟨o0, k0⟩ := hone_of hone 0 f0 rfl
  exact ⟨c0, y0, n, rfl, by simpa [Value.cells, o0, k0] using h0⟩
instance : Inhabited S26 := ⟨⟨0, 0, 0, 0⟩⟩
set_option maxRecDepth 100000 in
theorem opn_S26 {w : World} {n : Nat} {cs : List Value} {y : DataW H × List MemPlace} (h : DataW.trod enc Try.prog w base spare held n 26 cs = some y) : ∃ x : S26, k26.K w x cs ∧ (fun x : S26 => (fun x => (Lit.int .i64 x).wf = true) x.f0 ∧ (fun x => (Lit.int .i64 x).wf = true) x.f1 ∧ (fun x => (Lit.int .i64 x).wf = true) x.f2 ∧ (fun x => (Lit.int .i64 x).wf = true) x.f3) x := by
  obtain ⟨y0, y1, y2, y3, m, _, hl, h0, h1, h2, h3⟩ := trod_struct4 Try.underlying26 h
  have hl' : cs.length = 4 := hl.trans (by kernel_rfl)
  have cc3 : Try.prog.cellsOf 3 = 1 := by kernel_rfl
  match cs, hl' with
  | [c0, c1, c2, c3], _ =>
  simp only [cc3, List.drop_zero, List.drop_succ_cons, List.take_succ_cons, List.take_zero] at h0 h1 h2 h3
  obtain ⟨a0, e0, w0⟩ := opn_int Try.underlying3 h0
  replace e0 := List.head_eq_of_cons_eq e0
  subst e0
  obtain ⟨a1, e1, w1⟩ := opn_int Try.underlying3 h1
  replace e1 := List.head_eq_of_cons_eq e1
  subst e1
  obtain ⟨a2, e2, w2⟩ := opn_int Try.underlying3 h2
  replace e2 := List.head_eq_of_cons_eq e2
  subst e2
  obtain ⟨a3, e3, w3⟩ := opn_int Try.underlying3 h3
  replace e3 := List.head_eq_of_cons_eq e3
  subst e3
  exact ⟨⟨a0, a1, a2, a3⟩, k26_mk w ⟨a0, a1, a2, a3⟩, w0, w1, w2, w3⟩
end
end Go.Proofs.Ytaoffejflichjaa.P
end
section
namespace Go.Proofs.Ytaoffejflichjaa.P
open Go.RowKit Go.Proofs.YtaoffejflichjaaW.PrintWords Go.Proofs.YtaoffejflichjaaW.PrintLast Go.Proofs.YtaoffejflichjaaW.PrintMore
def FnExactChangedSinceTrue : Prop := ∀ (A0_0 : Option Addr) (c0_0 : Nat) (l0_0 : List (List Int)) (A1 : Option Addr) (c1 : Nat) (l1 : List S26) (A2_0 : Option Addr) (c2_0 : Nat) (l2_0 : List (List Int)) (w : World), Kd.C (Kd.slice 5 (Kd.int .u8)) w A0_0 l0_0.length l0_0 → l0_0.length ≤ c0_0 → Kd.C k26 w A1 l1.length l1 → l1.length ≤ c1 → Kd.C (Kd.slice 5 (Kd.int .u8)) w A2_0 l2_0.length l2_0 → l2_0.length ≤ c2_0 → (fun l => l.length ≤ 9223372036854775807 ∧ ∀ x ∈ l, (fun l => l.length ≤ 9223372036854775807 ∧ ∀ x ∈ l, (fun x => (Lit.int .u8 x).wf = true) x) x) l0_0 → (fun l => l.length ≤ 9223372036854775807 ∧ ∀ x ∈ l, (fun x => (fun x => (Lit.int .i64 x).wf = true) x.f0 ∧ (fun x => (Lit.int .i64 x).wf = true) x.f1 ∧ (fun x => (Lit.int .i64 x).wf = true) x.f2 ∧ (fun x => (Lit.int .i64 x).wf = true) x.f3) x) l1 → (fun l => l.length ≤ 9223372036854775807 ∧ ∀ x ∈ l, (fun l => l.length ≤ 9223372036854775807 ∧ ∀ x ∈ l, (fun x => (Lit.int .u8 x).wf = true) x) x) l2_0 → Calls Try.prog 9 #[.agg #[.slice A0_0 l0_0.length c0_0], .slice A1 l1.length c1, .agg #[.slice A2_0 l2_0.length c2_0]] w fun e w' => e = .returned (.bool true) ∧ Below w.heap.size w w'
end Go.Proofs.Ytaoffejflichjaa.P
end
section
namespace Go.Proofs.Ytaoffejflichjaa.P
open Go.RowKit Go.Proofs.YtaoffejflichjaaW.PrintWords Go.Proofs.YtaoffejflichjaaW.PrintLast Go.Proofs.YtaoffejflichjaaW.PrintMore
set_option linter.unusedVariables false
def Sm (s l : Int) : Prop := -1000000 ≤ s ∧ s ≤ 1000000 ∧ -1000000 ≤ l ∧ l ≤ 1000000
theorem win_sm {m : List (List Int)} {a s l c : Int} (hok : memOk m = true) (h : winOn m a s l c = true) : Sm s l ∧ Sm s c ∧ 0 ≤ s ∧ 0 ≤ l ∧ l ≤ c ∧ c ≤ 64 ∧ (0 ≤ a ∧ a < m.length) ∧ s + c ≤ (m.getD a.toNat []).length ∧ (m.getD a.toNat []).length ≤ 64 := by
  rw [winOn_iff] at h
  have hlt : a.toNat < m.length := by omega
  have := memOk_each hok _ (getD_mem m [] a.toNat hlt)
  unfold Sm
  omega
theorem wfu8 {x : Int} (h : (Lit.int .u8 x).wf = true) : 0 ≤ x ∧ x < 256 := by
  simp only [Lit.wf, Bool.and_eq_true, decide_eq_true_eq] at h
  have h1 : IntKind.u8.min = 0 := rfl
  have h2 : IntKind.u8.max = 255 := rfl
  omega
def seen (m : List (List Int)) (a s l : Int) : List Int := ((m.getD a.toNat []).drop s.toNat).take l.toNat
theorem seen_len {m : List (List Int)} {a s l c : Int} (hok : memOk m = true) (h : winOn m a s l c = true) : ((seen m a s l).length : Int) = l := by
  obtain ⟨_, _, h0, h1, h2, h3, h4, h5, h6⟩ := win_sm hok h
  unfold seen
  rw [List.length_take, List.length_drop]
  omega
theorem seen_mem {m : List (List Int)} {a s l : Int} {x : Int} (h : x ∈ seen m a s l) : ∃ r ∈ m, x ∈ r := by
  unfold seen at h
  have h1 := List.mem_of_mem_drop (List.mem_of_mem_take h)
  by_cases ha : a.toNat < m.length
  · exact ⟨_, getD_mem m [] a.toNat ha, h1⟩
  · rw [List.getD_eq_getElem?_getD, List.getElem?_eq_none (by omega)] at h1
    cases h1
theorem seen_rd {m : List (List Int)} {a s l i : Int} (h0 : 0 ≤ i) (h1 : i < l) (hs : 0 ≤ s) : rd (seen m a s l) i = rd (m.getD a.toNat []) (s + i) := by
  unfold rd seen
  generalize m.getD a.toNat [] = L
  rw [List.getD_eq_getElem?_getD, List.getD_eq_getElem?_getD, List.getElem?_take, if_pos (by omega), List.getElem?_drop, show s.toNat + i.toNat = (s + i).toNat by omega]
end Go.Proofs.Ytaoffejflichjaa.P
end
section
namespace Go.Proofs.Ytaoffejflichjaa.P
open Go.RowKit Go.Proofs.YtaoffejflichjaaW.PrintWords Go.Proofs.YtaoffejflichjaaW.PrintLast Go.Proofs.YtaoffejflichjaaW.PrintMore
set_option linter.unusedVariables false
theorem seen_eq {m : List (List Int)} {a s l c : Int} (hok : memOk m = true) (h : winOn m a s l c = true) : impl_Memory_seen.f m a s l c = some (seen m a s l) := by
  obtain ⟨_, _, h0, h1, h2, h3, h4, h5, h6⟩ := win_sm hok h
  unfold impl_Memory_seen.f
  have e : rd_L1 m a = m.getD a.toNat [] := rfl
  rw [e, wrap_in (x := s + l) (by omega) (by omega), if_pos h4.1, if_pos h4.2, if_pos h0, if_pos (by omega), if_pos (by omega), List.drop_take]
  unfold seen
  rw [show (s + l).toNat - s.toNat = l.toNat by omega]
theorem at_eq {m : List (List Int)} {a s l c i : Int} (hok : memOk m = true) (h : winOn m a s l c = true) (hi : 0 ≤ i) (hl : i < l) : spec_l2At.f m a s l c i = some (rd (seen m a s l) i) := by
  obtain ⟨_, _, h0, h1, h2, h3, h4, h5, h6⟩ := win_sm hok h
  unfold spec_l2At.f
  have e : rd_L1 m a = m.getD a.toNat [] := rfl
  rw [e, wrap_in (x := s + i) (by omega) (by omega), if_pos h4.1, if_pos h4.2, if_pos (by omega), if_pos (by omega), seen_rd hi hl h0]
end Go.Proofs.Ytaoffejflichjaa.P
end
section
namespace Go.Proofs.Ytaoffejflichjaa.P
open Go.RowKit Go.Proofs.YtaoffejflichjaaW.PrintWords Go.Proofs.YtaoffejflichjaaW.PrintLast Go.Proofs.YtaoffejflichjaaW.PrintMore
set_option linter.unusedVariables false
set_option linter.unusedSimpArgs false
theorem rd_get {xs : List Int} {i : Nat} (h : i < xs.length) : rd xs (i : Int) = xs[i] := by
  unfold rd
  rw [Int.toNat_natCast, List.getD_eq_getElem?_getD, List.getElem?_eq_getElem h]; rfl
theorem l2Bytes_l0 (m : List (List Int)) (a s l c : Int) (hok : memOk m = true) (hw : winOn m a s l c = true) (d : Nat) : ∀ i : Nat, i + d = (seen m a s l).length →
    Ev (fun k => spec_l2Bytes.l0 k ((seen m a s l).take i) i m a s l c) (seen m a s l) := by
  have hb := win_sm hok hw
  have hl := seen_len hok hw
  unfold Sm at hb
  induction d with
  | zero =>
    intro i hi
    refine ⟨1, fun k hk => ?_⟩
    obtain ⟨k, rfl⟩ : ∃ j, k = j + 1 := ⟨k - 1, by omega⟩
    dsimp only
    unfold spec_l2Bytes.l0
    rw [if_neg (by omega), List.take_of_length_le (by omega)]
  | succ d ih =>
    intro i hi
    have hlt : i < (seen m a s l).length := by omega
    obtain ⟨K, hK⟩ := ih (i + 1) (by omega)
    refine ⟨K + 1, fun k hk => ?_⟩
    obtain ⟨k, rfl⟩ : ∃ j, k = j + 1 := ⟨k - 1, by omega⟩
    have e1 := hK k (by omega)
    dsimp only at e1 ⊢
    unfold spec_l2Bytes.l0
    rw [if_pos (by omega), at_eq hok hw (by omega) (by omega), Option.bind_some, rd_get hlt, if_pos (by rw [List.length_take]; omega), wrap_in (x := (i : Int) + 1) (by omega) (by omega)]
    rw [List.take_succ_eq_append_getElem hlt, show ((i + 1 : Nat) : Int) = (i : Int) + 1 by omega] at e1
    exact e1
theorem l2Bytes_ev {m : List (List Int)} {a s l c : Int} (hok : memOk m = true) (hw : winOn m a s l c = true) : Ev (fun k => spec_l2Bytes.f k m a s l c) (seen m a s l) := by
  have := l2Bytes_l0 m a s l c hok hw (seen m a s l).length 0 (by omega)
  exact this
end Go.Proofs.Ytaoffejflichjaa.P
end
section
namespace Go.Proofs.Ytaoffejflichjaa.P
open Go.RowKit Go.Proofs.YtaoffejflichjaaW.PrintWords Go.Proofs.YtaoffejflichjaaW.PrintLast Go.Proofs.YtaoffejflichjaaW.PrintMore
set_option linter.unusedVariables false
set_option linter.unusedSimpArgs false
theorem least_eq (x y : Int) : spec_l1Least.f x y = some (mn x y) := by
  unfold spec_l1Least.f mn
  by_cases h : x < y
  · rw [if_pos h, if_neg (by omega)]
  · rw [if_neg h]
    by_cases h2 : y < x
    · rw [if_pos h2]
    · rw [if_neg h2, show x = y by omega]
theorem most_eq (x y : Int) : spec_l1Most.f x y = some (mx x y) := by
  unfold spec_l1Most.f mx
  by_cases h : x > y
  · rw [if_pos h, if_neg (by omega)]
  · rw [if_neg h]
    by_cases h2 : x < y
    · rw [if_pos h2]
    · rw [if_neg h2, show x = y by omega]
end Go.Proofs.Ytaoffejflichjaa.P
end
section
namespace Go.Proofs.Ytaoffejflichjaa.P
open Go.RowKit Go.Proofs.YtaoffejflichjaaW.PrintWords Go.Proofs.YtaoffejflichjaaW.PrintLast Go.Proofs.YtaoffejflichjaaW.PrintMore
set_option linter.unusedVariables false
set_option linter.unusedSimpArgs false
def cmpI : List Int → List Int → Int
  | [], [] => 0
  | [], _ :: _ => -1
  | _ :: _, [] => 1
  | x :: xs, y :: ys => if x < y then -1 else if y < x then 1 else cmpI xs ys
theorem cmpI_zero : ∀ (xs ys : List Int), cmpI xs ys = 0 ↔ xs = ys
  | [], [] => by simp [cmpI]
  | [], _ :: _ => by simp [cmpI]
  | _ :: _, [] => by simp [cmpI]
  | x :: xs, y :: ys => by
    have ih := cmpI_zero xs ys
    unfold cmpI
    by_cases h1 : x < y
    · rw [if_pos h1]
      constructor
      · intro h; omega
      · intro h; injection h with h2 h3; omega
    · rw [if_neg h1]
      by_cases h2 : y < x
      · rw [if_pos h2]
        constructor
        · intro h; omega
        · intro h; injection h with h2 h3; omega
      · rw [if_neg h2, ih]
        have e : x = y := by omega
        subst e
        constructor
        · intro h; rw [h]
        · intro h; injection h
theorem bytes_inj : ∀ (xs ys : List Int), (∀ x ∈ xs, 0 ≤ x ∧ x < 256) → (∀ x ∈ ys, 0 ≤ x ∧ x < 256) → (Lib.bytesOf xs = Lib.bytesOf ys ↔ xs = ys)
  | [], [], _, _ => by simp [Lib.bytesOf]
  | [], _ :: _, _, _ => by simp [Lib.bytesOf]
  | _ :: _, [], _, _ => by simp [Lib.bytesOf]
  | x :: xs, y :: ys, hx, hy => by
    have ih := bytes_inj xs ys (fun z hz => hx z (List.mem_cons_of_mem _ hz)) (fun z hz => hy z (List.mem_cons_of_mem _ hz))
    have h0 := hx x List.mem_cons_self
    have h1 := hy y List.mem_cons_self
    have e : UInt8.ofNat x.toNat = UInt8.ofNat y.toNat ↔ x = y := by
      constructor
      · intro h
        have h2 := congrArg UInt8.toNat h
        simp only [UInt8.toNat_ofNat'] at h2
        omega
      · intro h; rw [h]
    have e2 : Lib.bytesOf (x :: xs) = UInt8.ofNat x.toNat :: Lib.bytesOf xs := rfl
    have e3 : Lib.bytesOf (y :: ys) = UInt8.ofNat y.toNat :: Lib.bytesOf ys := rfl
    rw [e2, e3, List.cons.injEq, List.cons.injEq, e, ih]
theorem l2Order_l0 (xs ys : List Int) (hx : xs.length ≤ 1000000) (hy : ys.length ≤ 1000000) (d : Nat) : ∀ i : Nat, i + d = xs.length → i ≤ ys.length →
    Ev (fun k => spec_l2Order.l0 k xs ys i) (cmpI (xs.drop i) (ys.drop i)) := by
  induction d with
  | zero =>
    intro i hi hi2
    refine ⟨2, fun k hk => ?_⟩
    obtain ⟨k, rfl⟩ : ∃ j, k = j + 1 + 1 := ⟨k - 2, by omega⟩
    dsimp only
    unfold spec_l2Order.l0
    rw [if_neg (by omega)]
    unfold spec_l2Order.j1
    rw [if_neg (by decide), List.drop_eq_nil_of_le (by omega)]
    by_cases h : xs.length < ys.length
    · rw [if_pos (by omega), List.drop_eq_getElem_cons (show i < ys.length by omega)]
      rfl
    · rw [if_neg (by omega), List.drop_eq_nil_of_le (show ys.length ≤ i by omega), wrap_in (x := (xs.length : Int) - ys.length) (by omega) (by omega), least_eq, Option.bind_some, show (xs.length : Int) - ys.length = 0 by omega]
      rfl
  | succ d ih =>
    intro i hi hi2
    have hlt : i < xs.length := by omega
    by_cases hlt2 : i < ys.length
    · obtain ⟨K, hK⟩ := ih (i + 1) (by omega) (by omega)
      refine ⟨K + 2, fun k hk => ?_⟩
      obtain ⟨k, rfl⟩ : ∃ j, k = j + 1 + 1 := ⟨k - 2, by omega⟩
      have e1 := hK k (by omega)
      dsimp only at e1 ⊢
      unfold spec_l2Order.l0
      rw [if_pos (by omega), decide_eq_true (show (i : Int) < ys.length by omega)]
      unfold spec_l2Order.j1
      rw [if_pos rfl, if_pos (by omega), if_pos (by omega), if_pos (by omega), rd_get hlt, rd_get hlt2, wrap_in (x := (i : Int) + 1) (by omega) (by omega), List.drop_eq_getElem_cons hlt, List.drop_eq_getElem_cons hlt2]
      rw [show cmpI (xs[i] :: xs.drop (i + 1)) (ys[i] :: ys.drop (i + 1)) = (if xs[i] < ys[i] then -1 else if ys[i] < xs[i] then 1 else cmpI (xs.drop (i + 1)) (ys.drop (i + 1))) from rfl]
      by_cases h1 : xs[i] < ys[i]
      · rw [if_pos h1, if_pos h1]
      · rw [if_neg h1, if_neg h1]
        by_cases h2 : ys[i] < xs[i]
        · rw [if_pos h2, if_pos h2]
        · rw [if_neg h2, if_neg h2]
          rw [show ((i + 1 : Nat) : Int) = (i : Int) + 1 by omega] at e1
          exact e1
    · refine ⟨2, fun k hk => ?_⟩
      obtain ⟨k, rfl⟩ : ∃ j, k = j + 1 + 1 := ⟨k - 2, by omega⟩
      dsimp only
      unfold spec_l2Order.l0
      rw [if_pos (by omega), decide_eq_false (show ¬ (i : Int) < ys.length by omega)]
      unfold spec_l2Order.j1
      rw [if_neg (by decide), if_neg (by omega), List.drop_eq_nil_of_le (show ys.length ≤ i by omega), List.drop_eq_getElem_cons hlt, wrap_in (x := (xs.length : Int) - ys.length) (by omega) (by omega), least_eq, Option.bind_some]
      unfold mn
      by_cases h1 : 1 < (xs.length : Int) - ys.length
      · rw [if_pos h1]; rfl
      · rw [if_neg h1, show (xs.length : Int) - ys.length = 1 by omega]; rfl
theorem seen_u8 {m : List (List Int)} (hr : ∀ r ∈ m, ∀ x ∈ r, 0 ≤ x ∧ x < 256) (a s l : Int) : ∀ x ∈ seen m a s l, 0 ≤ x ∧ x < 256 := fun y hy => by
  obtain ⟨r, hr', hy'⟩ := seen_mem hy
  exact hr r hr' y hy'
end Go.Proofs.Ytaoffejflichjaa.P
end
section
namespace Go.Proofs.Ytaoffejflichjaa.P
open Go.RowKit Go.Proofs.YtaoffejflichjaaW.PrintWords Go.Proofs.YtaoffejflichjaaW.PrintLast Go.Proofs.YtaoffejflichjaaW.PrintMore
set_option linter.unusedVariables false
set_option linter.unusedSimpArgs false
def cvW (x : S26) : S33 := ⟨x.f0, x.f1, x.f2, x.f3⟩
theorem szWins (l : List S26) (t : Int) (hl : l.length ≤ 9223372036854775807) (h0 : ¬ t < 0) (h1 : t ≤ 1048576) : ∃ r, laws_szWindowS.f l t = some r ∧ (¬ r < 0 → l.length ≤ 1048576 ∧ r ≤ 1048576) := by
  unfold laws_szWindowS.f
  rw [wrap_in (x := t - (l.length : Int)) (by omega) (by omega)]
  by_cases h : t - (l.length : Int) < 0
  · rw [if_pos h]; exact ⟨_, rfl, fun h => by omega⟩
  · rw [if_neg h]; exact ⟨_, rfl, fun h => by omega⟩
theorem set_takeG {α : Type} (g x3 : List α) (i : Nat) (v : α) (hi : i < g.length) (hv : g[i] = v) (hl : x3.length = g.length) (ht : x3.take i = g.take i) : (x3.set i v).take (i + 1) = g.take (i + 1) := by
  rw [List.take_succ_eq_append_getElem (by simpa using (by omega : i < x3.length)), List.take_succ_eq_append_getElem hi]
  congr 1
  · rw [List.take_set_of_le (Nat.le_refl _)]; exact ht
  · simp [hv]
theorem rdA {l : List S26} {i : Nat} (h : i < l.length) : rd_T26 l (i : Int) = l[i] := by
  unfold rd_T26; rw [Int.toNat_natCast, List.getD_eq_getElem?_getD, List.getElem?_eq_getElem h]; rfl
theorem rdB {l : List S33} {i : Nat} (h : i < l.length) : rd_T33 l (i : Int) = l[i] := by
  unfold rd_T33; rw [Int.toNat_natCast, List.getD_eq_getElem?_getD, List.getElem?_eq_getElem h]; rfl
theorem toWins_l0 (x0 : List S26) (hmax : x0.length ≤ 1048576) (d : Nat) : ∀ (i : Nat) (x3 : List S33), i + d = x0.length → x3.length = x0.length → x3.take i = (x0.map cvW).take i →
    Ev (fun k => laws_toWindowS.l0 k x0 x3 (i : Int)) (x0.map cvW) := by
  induction d with
  | zero =>
    intro i x3 hi hl ht
    have e : x3 = x0.map cvW := by
      rw [List.take_of_length_le (by omega), List.take_of_length_le (by rw [List.length_map]; omega)] at ht; exact ht
    rw [e]
    exact Ev.end_ (fun k => by simp only [laws_toWindowS.l0]; rw [if_neg (by omega)])
  | succ d ih =>
    intro i x3 hi hl ht
    have hlt : i < x0.length := by omega
    obtain ⟨K2, h2⟩ := ih (i + 1) (x3.set i (cvW x0[i])) (by omega) (by simpa using hl) (set_takeG (x0.map cvW) x3 i _ (by simpa using hlt) (by simp) (by simpa using hl) ht)
    refine ⟨K2 + 1, fun n hn => ?_⟩
    obtain ⟨k, rfl⟩ : ∃ k, n = k + 1 := ⟨n - 1, by omega⟩
    have e2 := h2 k (by omega)
    dsimp only at e2 ⊢
    simp only [laws_toWindowS.l0, laws_toWindow.f, Option.bind_some]
    rw [if_pos (by omega), if_pos (by omega), if_pos (by omega), wrap_succ i (by omega), rdA hlt, Int.toNat_natCast]
    exact e2
theorem toWins (l : List S26) (hmax : l.length ≤ 1048576) : Ev (fun k => laws_toWindowS.f k l) (l.map cvW) := by
  obtain ⟨K, hK⟩ := toWins_l0 l hmax l.length 0 (List.replicate l.length z33) (by omega) (by simp) (by simp)
  refine ⟨K, fun k hk => ?_⟩
  have h1 := hK k hk
  simp only [Int.ofNat_zero, Int.natCast_zero] at h1
  dsimp only
  unfold laws_toWindowS.f
  rw [if_pos (by omega), if_pos (by rw [Int.toNat_natCast]; omega), Int.toNat_natCast]
  exact h1
theorem eqWins_l0 (l : List S33) (hmax : l.length ≤ 9223372036854775807) (d : Nat) : ∀ i : Nat, i + d = l.length → Ev (fun k => laws_eqWindowS.l0 k l l (i : Int)) true := by
  induction d with
  | zero => intro i hi; exact Ev.end_ (fun k => by simp only [laws_eqWindowS.l0]; rw [if_neg (by omega)])
  | succ d ih =>
    intro i hi
    have hlt : i < l.length := by omega
    obtain ⟨K2, h2⟩ := ih (i + 1) (by omega)
    refine ⟨K2 + 1, fun n hn => ?_⟩
    obtain ⟨k, rfl⟩ : ∃ k, n = k + 1 := ⟨n - 1, by omega⟩
    have e2 := h2 k (by omega)
    dsimp only at e2 ⊢
    simp only [laws_eqWindowS.l0, eqWin, Option.bind_some, if_true]
    rw [if_pos (by omega), if_pos (by omega), if_pos (by omega), wrap_succ i (by omega)]
    exact e2
theorem eqWins (l : List S33) (hmax : l.length ≤ 9223372036854775807) : Ev (fun k => laws_eqWindowS.f k l l) true := by
  obtain ⟨K, hK⟩ := eqWins_l0 l hmax l.length 0 (by omega)
  exact ⟨K, fun k hk => by dsimp only; unfold laws_eqWindowS.f; rw [if_pos rfl]; exact hK k hk⟩
def onAll (m : List (List Int)) (l : List S33) : Bool := l.all fun x => winOn m x.f0 x.f1 x.f2 x.f3
def wf4 (x : S33) : Prop := -9223372036854775808 ≤ x.f1 ∧ x.f1 ≤ 9223372036854775807
end Go.Proofs.Ytaoffejflichjaa.P
end
section
namespace Go.Proofs.Ytaoffejflichjaa.P
open Go.RowKit Go.Proofs.YtaoffejflichjaaW.PrintWords Go.Proofs.YtaoffejflichjaaW.PrintLast Go.Proofs.YtaoffejflichjaaW.PrintMore
set_option linter.unusedVariables false
set_option linter.unusedSimpArgs false
theorem eqInts_l0 (l : List Int) (hmax : l.length ≤ 9223372036854775807) (d : Nat) : ∀ i : Nat, i + d = l.length → Ev (fun k => laws_eqIntS.l0 k l l (i : Int)) true := by
  induction d with
  | zero => intro i hi; exact Ev.end_ (fun k => by simp only [laws_eqIntS.l0]; rw [if_neg (by omega)])
  | succ d ih =>
    intro i hi
    refine Ev.step (fun k => ?_) (ih (i + 1) (by omega))
    simp only [laws_eqIntS.l0]
    rw [if_pos (by omega), if_pos (by omega), if_pos (by omega), if_pos trivial, wrap_succ i (by omega)]
theorem eqInts (l : List Int) (hmax : l.length ≤ 9223372036854775807) : Ev (fun k => laws_eqIntS.f k l l) true := by
  obtain ⟨K, hK⟩ := eqInts_l0 l hmax l.length 0 (by omega)
  exact ⟨K, fun k hk => by dsimp only; unfold laws_eqIntS.f; rw [if_pos rfl]; exact hK k hk⟩
end Go.Proofs.Ytaoffejflichjaa.P
end
section
namespace Go.Proofs.Ytaoffejflichjaa.P
open Go.RowKit Go.Proofs.YtaoffejflichjaaW.PrintWords Go.Proofs.YtaoffejflichjaaW.PrintLast Go.Proofs.YtaoffejflichjaaW.PrintMore
set_option linter.unusedVariables false
set_option linter.unusedSimpArgs false
def ramp (a : Int) (n : Nat) : List Int := (List.range n).map fun (i : Nat) => a + (i : Int)
theorem ramp_len (a : Int) (n : Nat) : (ramp a n).length = n := by simp [ramp]
theorem ramp_succ (a : Int) (n : Nat) : ramp a (n + 1) = ramp a n ++ [a + n] := by simp [ramp, List.range_succ]
theorem markInts_l0 (l : List Int) (a : Int) (hl : l.length ≤ 1048576) (h0 : 0 ≤ a) (h1 : a ≤ 1099511627776) (d : Nat) : ∀ i : Nat, i + d = l.length →
    Ev (fun k => laws_markIntS.l0 k (ramp a i ++ l.drop i) (a + i) (i : Int)) (a + l.length, ramp a l.length) := by
  induction d with
  | zero =>
    intro i hi
    obtain rfl : i = l.length := by omega
    refine Ev.end_ (fun k => ?_)
    simp only [laws_markIntS.l0]
    rw [if_neg (by simp [ramp_len])]
    simp
  | succ d ih =>
    intro i hi
    have hlt : i < l.length := by omega
    have e : (ramp a i ++ l.drop i).set i (a + i) = ramp a (i + 1) ++ l.drop (i + 1) := by
      rw [List.drop_eq_getElem_cons hlt, List.set_append_right _ _ (by rw [ramp_len]; exact Nat.le_refl _), ramp_succ, ramp_len, Nat.sub_self, List.set_cons_zero, List.append_assoc]
      rfl
    obtain ⟨K, hK⟩ := ih (i + 1) (by omega)
    refine ⟨K + 1, fun n hn => ?_⟩
    obtain ⟨k, rfl⟩ : ∃ k, n = k + 1 := ⟨n - 1, by omega⟩
    have e2 := hK k (by omega)
    dsimp only at e2 ⊢
    simp only [laws_markIntS.l0]
    rw [if_pos (by simp [ramp_len]; omega), if_pos (by omega), Int.toNat_natCast, e, wrap_in (x := a + i + 1) (by omega) (by omega), wrap_succ i (by omega)]
    rw [show a + (i : Int) + 1 = a + ((i + 1 : Nat) : Int) by omega]
    exact e2
theorem markInts (l : List Int) (a : Int) (hl : l.length ≤ 1048576) (h0 : 0 ≤ a) (h1 : a ≤ 1099511627776) : Ev (fun k => laws_markIntS.f k l a) (a + l.length, ramp a l.length) := by
  obtain ⟨K, hK⟩ := markInts_l0 l a hl h0 h1 l.length 0 (by omega)
  refine ⟨K, fun k hk => ?_⟩
  have := hK k hk
  simpa [laws_markIntS.f, ramp] using this
theorem heldInts_l0 (a : Int) (m : Nat) (hm : m ≤ 1048576) (h0 : 0 ≤ a) (h1 : a ≤ 1099511627776) (d : Nat) : ∀ i : Nat, i + d = m →
    Ev (fun k => laws_heldIntS.l0 k (ramp a m) (a + i) (i : Int)) (a + m) := by
  induction d with
  | zero =>
    intro i hi
    obtain rfl : i = m := by omega
    refine Ev.end_ (fun k => ?_)
    simp only [laws_heldIntS.l0]
    rw [if_neg (by simp [ramp_len])]
  | succ d ih =>
    intro i hi
    have hlt : i < m := by omega
    have e : rd (ramp a m) (i : Int) = a + i := by
      unfold rd
      rw [Int.toNat_natCast, List.getD_eq_getElem?_getD, List.getElem?_eq_getElem (by rw [ramp_len]; exact hlt)]
      simp [ramp]
    obtain ⟨K, hK⟩ := ih (i + 1) (by omega)
    refine ⟨K + 1, fun n hn => ?_⟩
    obtain ⟨k, rfl⟩ : ∃ k, n = k + 1 := ⟨n - 1, by omega⟩
    have e2 := hK k (by omega)
    dsimp only at e2 ⊢
    simp only [laws_heldIntS.l0]
    rw [if_pos (by rw [ramp_len]; omega), if_pos (by omega), if_pos e, wrap_in (x := a + i + 1) (by omega) (by omega), wrap_succ i (by omega)]
    rw [show a + (i : Int) + 1 = a + ((i + 1 : Nat) : Int) by omega]
    exact e2
theorem heldInts (a : Int) (m : Nat) (hm : m ≤ 1048576) (h0 : 0 ≤ a) (h1 : a ≤ 1099511627776) : Ev (fun k => laws_heldIntS.f k (ramp a m) a) (a + m) := by
  obtain ⟨K, hK⟩ := heldInts_l0 a m hm h0 h1 m 0 (by omega)
  refine ⟨K, fun k hk => ?_⟩
  have := hK k hk
  simpa [laws_heldIntS.f] using this
end Go.Proofs.Ytaoffejflichjaa.P
end
section
namespace Go.Proofs.Ytaoffejflichjaa.P
open Go.RowKit Go.Proofs.YtaoffejflichjaaW.PrintWords Go.Proofs.YtaoffejflichjaaW.PrintLast Go.Proofs.YtaoffejflichjaaW.PrintMore
set_option linter.unusedVariables false
set_option linter.unusedSimpArgs false
def ramp8 (a : Int) (n : Nat) : List Int := (List.range n).map fun (i : Nat) => (a + (i : Int)) % 256
theorem ramp8_len (a : Int) (n : Nat) : (ramp8 a n).length = n := by simp [ramp8]
theorem ramp8_succ (a : Int) (n : Nat) : ramp8 a (n + 1) = ramp8 a n ++ [(a + n) % 256] := by simp [ramp8, List.range_succ]
theorem markBytes_l0 (l : List Int) (a : Int) (hl : l.length ≤ 1099511627776) (h0 : 0 ≤ a) (h1 : a ≤ 4398046511104) (d : Nat) : ∀ i : Nat, i + d = l.length →
    Ev (fun k => laws_markByteS.l0 k (ramp8 a i ++ l.drop i) (a + i) (i : Int)) (a + l.length, ramp8 a l.length) := by
  induction d with
  | zero =>
    intro i hi
    obtain rfl : i = l.length := by omega
    refine Ev.end_ (fun k => ?_)
    simp only [laws_markByteS.l0]
    rw [if_neg (by simp [ramp8_len])]
    simp
  | succ d ih =>
    intro i hi
    have hlt : i < l.length := by omega
    have e : (ramp8 a i ++ l.drop i).set i ((a + i) % 256) = ramp8 a (i + 1) ++ l.drop (i + 1) := by
      rw [List.drop_eq_getElem_cons hlt, List.set_append_right _ _ (by rw [ramp8_len]; exact Nat.le_refl _), ramp8_succ, ramp8_len, Nat.sub_self, List.set_cons_zero, List.append_assoc]
      rfl
    obtain ⟨K, hK⟩ := ih (i + 1) (by omega)
    refine ⟨K + 1, fun n hn => ?_⟩
    obtain ⟨k, rfl⟩ : ∃ k, n = k + 1 := ⟨n - 1, by omega⟩
    have e2 := hK k (by omega)
    dsimp only at e2 ⊢
    simp only [laws_markByteS.l0]
    rw [if_pos (by simp [ramp8_len]; omega), if_pos (by omega), Int.toNat_natCast, e, wrap_in (x := a + i + 1) (by omega) (by omega), wrap_succ i (by omega)]
    rw [show a + (i : Int) + 1 = a + ((i + 1 : Nat) : Int) by omega]
    exact e2
theorem markBytes (l : List Int) (a : Int) (hl : l.length ≤ 1099511627776) (h0 : 0 ≤ a) (h1 : a ≤ 4398046511104) : Ev (fun k => laws_markByteS.f k l a) (a + l.length, ramp8 a l.length) := by
  obtain ⟨K, hK⟩ := markBytes_l0 l a hl h0 h1 l.length 0 (by omega)
  refine ⟨K, fun k hk => ?_⟩
  have := hK k hk
  simpa [laws_markByteS.f, ramp8] using this
def total (m : List (List Int)) : Nat := (m.map List.length).sum
theorem total_small {m : List (List Int)} (h : Small m) : total m ≤ 1099511627776 := by
  obtain ⟨h1, h2⟩ := h
  have : ∀ m : List (List Int), (∀ a ∈ m, a.length ≤ 1048576) → total m ≤ m.length * 1048576 := by
    intro m
    induction m with
    | nil => intro _; simp [total]
    | cons a m ih =>
      intro h
      have h3 := h a List.mem_cons_self
      have h4 := ih (fun x hx => h x (List.mem_cons_of_mem _ hx))
      have e : total (a :: m) = a.length + total m := by simp [total]
      have e2 : (a :: m).length = m.length + 1 := rfl
      rw [e, e2]
      omega
  have := this m h2
  omega
def rampSS : List (List Int) → Int → List (List Int)
  | [], _ => []
  | l :: ls, a => ramp8 a l.length :: rampSS ls (a + l.length)
theorem rampSS_len : ∀ (m : List (List Int)) (a : Int), (rampSS m a).length = m.length
  | [], _ => rfl
  | _ :: ls, a => by simp [rampSS, rampSS_len ls]
theorem rampSS_at : ∀ (m : List (List Int)) (a : Int) (j : Nat) (h : j < m.length), (rampSS m a)[j]? = some (ramp8 (a + total (m.take j)) m[j].length)
  | l :: ls, a, 0, h => by simp [rampSS, total]
  | l :: ls, a, j + 1, h => by
    have h' : j < ls.length := by simpa using h
    have := rampSS_at ls (a + l.length) j h'
    simp only [rampSS, List.getElem?_cons_succ, this, List.take_succ_cons, List.getElem_cons_succ]
    congr 2
    simp [total]
    omega
theorem total_append (a b : List (List Int)) : total (a ++ b) = total a + total b := by simp [total]
theorem total_take_succ (m : List (List Int)) (j : Nat) (h : j < m.length) : total (m.take (j + 1)) = total (m.take j) + m[j].length := by
  rw [List.take_succ_eq_append_getElem h, total_append]
  have e : total [m[j]] = m[j].length := by simp [total]
  rw [e]
theorem total_take_le (m : List (List Int)) (j : Nat) : total (m.take j) ≤ total m := by
  have e : total (m.take j ++ m.drop j) = total (m.take j) + total (m.drop j) := total_append _ _
  rw [List.take_append_drop] at e
  omega
theorem markSS_l0 (m : List (List Int)) (a : Int) (hm : m.length ≤ 1048576) (ht : total m ≤ 1099511627776) (h0 : 0 ≤ a) (h1 : a ≤ 2199023255552) (d : Nat) : ∀ i : Nat, i + d = m.length →
    Ev (fun k => laws_markByteSS.l0 k ((rampSS m a).take i ++ m.drop i) (a + total (m.take i)) (i : Int)) (a + total m, rampSS m a) := by
  induction d with
  | zero =>
    intro i hi
    obtain rfl : i = m.length := by omega
    refine Ev.end_ (fun k => ?_)
    simp only [laws_markByteSS.l0]
    have e1 : (rampSS m a).take m.length = rampSS m a := List.take_of_length_le (by rw [rampSS_len]; exact Nat.le_refl _)
    rw [if_neg (by simp [rampSS_len]), e1]
    simp
  | succ d ih =>
    intro i hi
    have hlt : i < m.length := by omega
    have hti := total_take_succ m i hlt
    have htl := total_take_le m (i + 1)
    have hr := rampSS_at m a i hlt
    have hl1 : ((rampSS m a).take i).length = i := by rw [List.length_take, rampSS_len]; omega
    have erd : rd_L1 ((rampSS m a).take i ++ m.drop i) (i : Int) = m[i] := by
      unfold rd_L1
      rw [Int.toNat_natCast, List.getD_eq_getElem?_getD, List.getElem?_append_right (by omega), hl1, Nat.sub_self, List.getElem?_drop]
      simp [List.getElem?_eq_getElem hlt]
    have e : ((rampSS m a).take i ++ m.drop i).set i (ramp8 (a + total (m.take i)) m[i].length) = (rampSS m a).take (i + 1) ++ m.drop (i + 1) := by
      rw [List.drop_eq_getElem_cons hlt, List.set_append_right _ _ (by omega), hl1, Nat.sub_self, List.set_cons_zero, List.take_add_one, hr, List.append_assoc]
      rfl
    obtain ⟨K1, hK1⟩ := markBytes m[i] (a + total (m.take i)) (by omega) (by omega) (by omega)
    obtain ⟨K, hK⟩ := ih (i + 1) (by omega)
    refine ⟨K1 + K + 1, fun n hn => ?_⟩
    obtain ⟨k, rfl⟩ : ∃ k, n = k + 1 := ⟨n - 1, by omega⟩
    have e1 := hK1 k (by omega)
    have e2 := hK k (by omega)
    dsimp only at e1 e2 ⊢
    simp only [laws_markByteSS.l0]
    rw [if_pos (by rw [List.length_append, hl1, List.length_drop]; omega), if_pos (by omega), erd, e1, Option.bind_some]
    dsimp only
    rw [Int.toNat_natCast, e, wrap_succ i (by omega)]
    rw [show a + (total (m.take i) : Int) + (m[i].length : Int) = a + (total (m.take (i + 1)) : Int) by omega]
    exact e2
theorem markMem (m : List (List Int)) (a : Int) (hm : Small m) (h0 : 0 ≤ a) (h1 : a ≤ 2199023255552) : Ev (fun k => laws_markMemory.f k m a) (a + total m, rampSS m a) := by
  obtain ⟨K, hK⟩ := markSS_l0 m a hm.1 (total_small hm) h0 h1 m.length 0 (by omega)
  refine ⟨K, fun k hk => ?_⟩
  have := hK k hk
  simpa [laws_markMemory.f, laws_markByteSS.f, total] using this
end Go.Proofs.Ytaoffejflichjaa.P
end
section
namespace Go.Proofs.Ytaoffejflichjaa.P
open Go.RowKit Go.Proofs.YtaoffejflichjaaW.PrintWords Go.Proofs.YtaoffejflichjaaW.PrintLast Go.Proofs.YtaoffejflichjaaW.PrintMore
set_option linter.unusedVariables false
set_option linter.unusedSimpArgs false
theorem markWins_l0 (d : Nat) : ∀ (i : Nat) (a : Int) (x : List S33), i + d = x.length → x.length ≤ 1048576 → 0 ≤ a → a + 4 * d ≤ 8796093022208 → ∃ y, Ev (fun k => laws_markWindowS.l0 k x a (i : Int)) (a + 4 * d, y) := by
  induction d with
  | zero =>
    intro i a x hi hx h0 h1
    refine ⟨x, Ev.end_ (fun k => ?_)⟩
    simp only [laws_markWindowS.l0]
    rw [if_neg (by omega)]
    simp
  | succ d ih =>
    intro i a x hi hx h0 h1
    have hl : ∀ (b0 b1 b2 b3 : S33), ((((x.set i b0).set i b1).set i b2).set i b3).length = x.length := by intro b0 b1 b2 b3; simp
    have step : ∀ (b0 b1 b2 b3 : S33), ∃ y, Ev (fun k => laws_markWindowS.l0 k ((((x.set i b0).set i b1).set i b2).set i b3) (a + 1 + 1 + 1 + 1) ((i + 1 : Nat) : Int)) (a + 4 * ((d + 1 : Nat) : Int), y) := by
      intro b0 b1 b2 b3
      obtain ⟨y, hy⟩ := ih (i + 1) (a + 1 + 1 + 1 + 1) ((((x.set i b0).set i b1).set i b2).set i b3) (by rw [hl]; omega) (by rw [hl]; omega) (by omega) (by omega)
      refine ⟨y, ?_⟩
      rw [show a + 4 * ((d + 1 : Nat) : Int) = a + 1 + 1 + 1 + 1 + 4 * (d : Int) by omega]
      exact hy
    have e : ∀ k, ∃ b0 b1 b2 b3, laws_markWindowS.l0 (k + 1) x a (i : Int) = laws_markWindowS.l0 k ((((x.set i b0).set i b1).set i b2).set i b3) (a + 1 + 1 + 1 + 1) ((i + 1 : Nat) : Int) ∧ ∀ k', laws_markWindowS.l0 (k' + 1) x a (i : Int) = laws_markWindowS.l0 k' ((((x.set i b0).set i b1).set i b2).set i b3) (a + 1 + 1 + 1 + 1) ((i + 1 : Nat) : Int) := by
      intro k
      have h : ∀ k', laws_markWindowS.l0 (k' + 1) x a (i : Int) = _ := fun k' => by
        simp only [laws_markWindowS.l0, Option.bind_some, Int.toNat_natCast]
        rw [if_pos (by omega), if_pos (by omega), wrap_in (x := a + 1) (by omega) (by omega), wrap_in (x := a + 1 + 1) (by omega) (by omega), wrap_in (x := a + 1 + 1 + 1) (by omega) (by omega), wrap_in (x := a + 1 + 1 + 1 + 1) (by omega) (by omega), wrap_succ i (by omega)]
      exact ⟨_, _, _, _, h k, h⟩
    obtain ⟨b0, b1, b2, b3, _, e⟩ := e 0
    obtain ⟨y, K, hK⟩ := step b0 b1 b2 b3
    refine ⟨y, K + 1, fun n hn => ?_⟩
    obtain ⟨k, rfl⟩ : ∃ k, n = k + 1 := ⟨n - 1, by omega⟩
    dsimp only
    rw [e k]
    exact hK k (by omega)
theorem markWins (l : List S33) (a : Int) (hl : l.length ≤ 1048576) (h0 : 0 ≤ a) (h1 : a ≤ 4398046511104) : ∃ y, Ev (fun k => laws_markWindowS.f k l a) (a + 4 * (l.length : Int), y) := by
  obtain ⟨y, hy⟩ := markWins_l0 l.length 0 a l (by omega) hl h0 (by omega)
  exact ⟨y, hy⟩
end Go.Proofs.Ytaoffejflichjaa.P
end
section
namespace Go.Proofs.Ytaoffejflichjaa.P
open Go.RowKit Go.Proofs.YtaoffejflichjaaW.PrintWords Go.Proofs.YtaoffejflichjaaW.PrintLast Go.Proofs.YtaoffejflichjaaW.PrintMore
set_option linter.unusedVariables false
set_option linter.unusedSimpArgs false
theorem l3Watched_l0 (m : List (List Int)) (hm : Fit m) (l : List S33) (hw : ∀ x ∈ l, wf4 x) (hlen : l.length ≤ 1048576) (d : Nat) : ∀ i : Nat, i + d = min l.length 13 →
    Ev (fun k => spec_l3Watched.l0 k l i m) (((l.drop i).take d).all (fun x => memOk m && winOn m x.f0 x.f1 x.f2 x.f3) && (memOk m && decide (l.length ≤ 12))) := by
  induction d with
  | zero =>
    intro i hi
    obtain ⟨K, hK⟩ := l2Mem m hm.1
    refine ⟨K + 2, fun k hk => ?_⟩
    obtain ⟨k, rfl⟩ : ∃ j, k = j + 1 + 1 := ⟨k - 2, by omega⟩
    have e1 := hK k (by omega)
    dsimp only at e1 ⊢
    have hj : spec_l3Watched.j1 (k + 1) l i false m = some (memOk m && decide (l.length ≤ 12)) := by
      unfold spec_l3Watched.j1
      rw [if_neg (by decide), e1, Option.bind_some]
      cases memOk m
      · rfl
      · rw [if_pos rfl]
        simp only [Bool.true_and, Option.some.injEq]
        rw [Bool.eq_iff_iff]
        simp only [decide_eq_true_eq]
        omega
    unfold spec_l3Watched.l0
    rw [List.take_zero, List.all_nil, Bool.true_and]
    by_cases h : (i : Int) < l.length
    · rw [if_pos h, decide_eq_false (show ¬ (i : Int) ≤ 12 by omega)]
      exact hj
    · rw [if_neg h]
      exact hj
  | succ d ih =>
    intro i hi
    have hlt : i < l.length := by omega
    obtain ⟨K, hK⟩ := l2Win m hm l[i].f0 l[i].f1 l[i].f2 l[i].f3 (hw _ (List.getElem_mem hlt))
    obtain ⟨K2, h2⟩ := ih (i + 1) (by omega)
    refine ⟨K + K2 + 2, fun k hk => ?_⟩
    obtain ⟨k, rfl⟩ : ∃ j, k = j + 1 + 1 := ⟨k - 2, by omega⟩
    have e1 := hK k (by omega)
    have e2 := h2 k (by omega)
    dsimp only at e1 e2 ⊢
    unfold spec_l3Watched.l0
    rw [if_pos (by omega), decide_eq_true (show (i : Int) ≤ 12 by omega)]
    unfold spec_l3Watched.j1
    rw [if_pos rfl, if_pos (by omega), if_pos (by omega), rdB hlt, e1, Option.bind_some, wrap_succ i (by omega), e2, List.drop_eq_getElem_cons hlt, List.take_succ_cons, List.all_cons]
    cases memOk m && winOn m l[i].f0 l[i].f1 l[i].f2 l[i].f3 <;> rfl
def watched (m : List (List Int)) (l : List S33) : Bool := memOk m && (onAll m l && decide (l.length ≤ 12))
theorem l3Watched_ev (m : List (List Int)) (hm : Fit m) (l : List S33) (hw : ∀ x ∈ l, wf4 x) (hlen : l.length ≤ 1048576) : Ev (fun k => spec_l3Watched.f k m l) (watched m l) := by
  obtain ⟨K, hK⟩ := l3Watched_l0 m hm l hw hlen (min l.length 13) 0 (by omega)
  refine ⟨K, fun k hk => ?_⟩
  have e1 := hK k hk
  refine e1.trans ?_
  unfold watched onAll
  rw [List.drop_zero, Option.some.injEq]
  by_cases h : l.length ≤ 12
  · rw [List.take_of_length_le (by omega), decide_eq_true h]
    cases memOk m
    · simp
    · simp
  · rw [decide_eq_false h]
    simp
theorem areWatched_ev (m : List (List Int)) (hm : Fit m) (l : List S33) : Ev (fun k => impl_areWatched.f k m l) (watched m l) := by
  obtain ⟨K, hK⟩ := areOn_ev m hm l
  refine ⟨K, fun k hk => ?_⟩
  have e1 := hK k hk
  dsimp only at e1 ⊢
  unfold impl_areWatched.f
  rw [e1, Option.bind_some]
  unfold watched onAll
  have e : decide ((l.length : Int) ≤ 12) = decide (l.length ≤ 12) := by
    rw [Bool.eq_iff_iff]; simp only [decide_eq_true_eq]; omega
  rw [e]
  cases memOk m <;> cases (l.all fun x => winOn m x.f0 x.f1 x.f2 x.f3) <;> rfl
end Go.Proofs.Ytaoffejflichjaa.P
end
section
namespace Go.Proofs.Ytaoffejflichjaa.P
open Go.RowKit Go.Proofs.YtaoffejflichjaaW.PrintWords Go.Proofs.YtaoffejflichjaaW.PrintLast Go.Proofs.YtaoffejflichjaaW.PrintMore
set_option linter.unusedVariables false
set_option linter.unusedSimpArgs false
theorem numsF_len (p : Int → S33 → Bool) : ∀ (l : List S33) (i : Int), (numsF p l i).length ≤ l.length
  | [], _ => by simp [numsF]
  | x :: xs, i => by
    have := numsF_len p xs (i + 1)
    simp only [numsF]
    split <;> simp only [List.length_cons] <;> omega
theorem onAll_each {m : List (List Int)} {l : List S33} (h : watched m l = true) : memOk m = true ∧ (∀ x ∈ l, winOn m x.f0 x.f1 x.f2 x.f3 = true) ∧ l.length ≤ 12 := by
  unfold watched onAll at h
  simp only [Bool.and_eq_true, decide_eq_true_eq, List.all_eq_true] at h
  exact ⟨h.1, h.2.1, h.2.2⟩
end Go.Proofs.Ytaoffejflichjaa.P
end
