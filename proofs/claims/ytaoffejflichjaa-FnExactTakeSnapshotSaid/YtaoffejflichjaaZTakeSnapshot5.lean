/- The texts YtaoffejflichjaaWalkFnExactTakeSnapshot, YtaoffejflichjaaOpen, YtaoffejflichjaaStFnExactTakeSnapshot, YtaoffejflichjaaWins, YtaoffejflichjaaWatched, YtaoffejflichjaaSm, YtaoffejflichjaaTrodP, YtaoffejflichjaaMkBytes, YtaoffejflichjaaMkWins, YtaoffejflichjaaHeldMem, YtaoffejflichjaaSeen, YtaoffejflichjaaL2Bytes, YtaoffejflichjaaPureFnExactTakeSnapshot, YtaoffejflichjaaRowFnExactTakeSnapshot, without what the row does not need: words for rows in memory, contracts of functions, plain lemmas, the row. -/
import Derived.Test.YtaoffejflichjaaZTakeSnapshot4
import Derived.ProofKit
import Derived.Lib.SmallJoins
import Derived.Deep.Slices
import Derived.Deep.Strs
import Derived.WalkKit
import Derived.Test.YtaoffejflichjaaRows
import Derived.OpenShut
import Derived.ShutString
import Derived.ChangeOld
import Derived.Below
import Derived.SizedLaws
section
namespace Go.Proofs.Ytaoffejflichjaa.P
open Go.RowKit Go.Proofs.YtaoffejflichjaaW.PrintWords Go.Proofs.YtaoffejflichjaaW.PrintLast Go.Proofs.YtaoffejflichjaaW.PrintMore
set_option linter.unusedVariables false
set_option linter.unusedSimpArgs false
set_option maxHeartbeats 8000000 in
set_option maxRecDepth 100000 in
theorem laws_FnExactTakeSnapshot.exit1 (k : Nat) (A0_0 : Option Addr) (c0_0 : Nat) (l0_0 : List (List Int)) (A1 : Option Addr) (c1 : Nat) (l1 : List S26) (z3 : Int) (w : World) (hr0_0 : Kd.C (Kd.slice 5 (Kd.int .u8)) w A0_0 l0_0.length l0_0) (hc0_0 : l0_0.length ≤ c0_0) (hr1 : Kd.C k26 w A1 l1.length l1) (hc1 : l1.length ≤ c1) (hE1 : laws_szMemory.f k l0_0 1048576 = some z3) (hz3_no : z3 < 0) :
    Calls Try.prog 7 #[.agg #[.slice A0_0 l0_0.length c0_0], .slice A1 l1.length c1] w fun e w' => e = .returned (.bool true) ∧ Below w.heap.size w w' := by
  have hu24 := Try.underlying24
  have hu31 := Try.underlying31
  have HR0_0 := Aside0.mk hr0_0
  have HC0_0 := Aside0.mk hc0_0
  clear hr0_0 hc0_0
  have HR1 := Aside0.mk hr1
  have HC1 := Aside0.mk hc1
  clear hr1 hc1
  have E1 := Aside0.mk hE1
  clear hE1
  have d_z3 : decide (z3 < 0) = true := decide_eq_true hz3_no
  clear hz3_no
  have HB := Aside0.mk (Below.refl w.heap.size w)
  obtain ⟨n0, hn0⟩ : ∃ n_, n_ = w.heap.size := ⟨_, rfl⟩
  have HZ := Aside0.mk (Nat.le_of_eq hn0 : n0 ≤ w.heap.size)
  clear hn0
  go_enter Try.func7, Try.ntmps7
  go_wp2_with (first | ((with_reducible refine gate_dst (N := 2) rfl ?_); refine box_event ?hg (N := 2) ?hd (cs := #[.slice A0_0 l0_0.length c0_0]) (t := 24) ?hr ?_; (case hd => rfl); (case hg => rfl); (case hr => first | (go_simp; done) | (go_simp; rfl)); intro gb2 hg_ w3001 hbox hb; have mB_ := Aside0.mk (below_step (by (repeat (first | (with_reducible first | exact HB.out | apply below_alloc | apply pw_below_drewN | apply below_drew1) | exact HB.out))) hb); have mL_ := Aside0.mk (by (repeat (first | exact HZ.out | (with_reducible first | apply sz_alloc | apply sz_drewN | apply sz_drew | apply sz_set))) : n0 ≤ _); obtain ⟨n1, hn_⟩ : ∃ n_, n_ = w3001.heap.size := ⟨_, rfl⟩; have mN_ := Aside0.mk (by rw [hn_]; exact Nat.le_trans mL_.out hb.size : n0 ≤ n1); have mZ_ := Aside0.mk (Nat.le_of_eq hn_ : n1 ≤ w3001.heap.size); have xBK2_ := Aside0.mk (hbox); have xGE2_ := Aside0.mk (by rw [hg_]; exact below_size (by (repeat (first | (with_reducible first | exact HB.out | apply below_alloc | apply pw_below_drewN | apply below_drew1) | exact HB.out))) : w.heap.size ≤ gb2); have xHI2_ := Aside0.mk (⟨by rw [hg_]; exact mL_.out, by rw [hn_]; exact blk_lt hbox⟩ : n0 ≤ gb2 ∧ gb2 < n1); clear HB HZ; have HB := mB_; have HZ := mZ_; have HN1 := mN_; have BK2 := xBK2_; have GE2 := xGE2_; have HI2 := xHI2_; clear mB_ mN_ mZ_ mL_ xBK2_ xGE2_ xHI2_; (try clear hn_); clear hb hbox hg_; have hc2_0 := (blk_cell BK2.out 0).trans (show (#[.slice A0_0 l0_0.length c0_0] : Array Value)[0]? = some (.slice A0_0 l0_0.length c0_0) from rfl); have hf2_0 := blk_frozen BK2.out 0) | ((with_reducible refine gate_callee (f := 12) rfl ?_); refine goesL_ (some 19) rfl rfl Try.func12 (by kernel_rfl) rfl #[.agg #[.slice A0_0 l0_0.length c0_0], .int .i64 1048576] rfl (by (try simp only [List.map_toArray, List.map_cons, List.map_nil]); first | done | rfl) ?_; (with_reducible refine (laws_szMemory.calls k _ _ l0_0 1048576 z3 _ ?sr0 ?sc0 E1.out).mono ?_); (case sr0 => exact Kd.C_below HR0_0.out (by (repeat (first | (with_reducible first | exact HB.out | apply below_alloc | apply pw_below_drewN | apply below_drew1 | refine below_set ?_ GE2.out) | exact HB.out)))); (case sc0 => exact HC0_0.out); rintro e w1004 ⟨rfl, hb⟩; refine ⟨_, rfl, ?_⟩; have m0_ := Aside0.mk (blk_below (g := gb2) (o := .cells #[.slice A0_0 l0_0.length c0_0] 24 (0, 0)) (by ((with_reducible repeat (first | refine blk_drewN ?_ _ | refine blk_drew ?_ | refine blk_alloc ?_ _)); exact BK2.out)) hb); have mB_ := Aside0.mk (below_step (by (repeat (first | (with_reducible first | exact HB.out | apply below_alloc | apply pw_below_drewN | apply below_drew1 | refine below_set ?_ GE2.out) | exact HB.out))) hb); have mL_ := Aside0.mk (by (repeat (first | exact HZ.out | (with_reducible first | apply sz_alloc | apply sz_drewN | apply sz_drew | apply sz_set))) : n1 ≤ _); obtain ⟨n2, hn_⟩ : ∃ n_, n_ = w1004.heap.size := ⟨_, rfl⟩; have mN_ := Aside0.mk (by rw [hn_]; exact Nat.le_trans mL_.out hb.size : n1 ≤ n2); have mZ_ := Aside0.mk (Nat.le_of_eq hn_ : n2 ≤ w1004.heap.size); clear BK2 HB HZ; have BK2 := m0_; have HB := mB_; have HZ := mZ_; have HN2 := mN_; clear m0_ mB_ mN_ mZ_ mL_; (try clear hn_); clear hb))
  go_ret
  exact ⟨rfl, by (repeat (first | (with_reducible first | exact HB.out | apply below_alloc | apply pw_below_drewN | apply below_drew1 | refine below_set ?_ GE2.out) | exact HB.out))⟩
set_option maxHeartbeats 8000000 in
set_option maxRecDepth 100000 in
theorem laws_FnExactTakeSnapshot.exit2 (k : Nat) (A0_0 : Option Addr) (c0_0 : Nat) (l0_0 : List (List Int)) (A1 : Option Addr) (c1 : Nat) (l1 : List S26) (z3 : Int) (z5 : Int) (w : World) (hr0_0 : Kd.C (Kd.slice 5 (Kd.int .u8)) w A0_0 l0_0.length l0_0) (hc0_0 : l0_0.length ≤ c0_0) (hr1 : Kd.C k26 w A1 l1.length l1) (hc1 : l1.length ≤ c1) (hE1 : laws_szMemory.f k l0_0 1048576 = some z3) (hE2 : laws_szWindowS.f l1 z3 = some z5) (hz3_no : ¬ z3 < 0) (hz5_no : z5 < 0) :
    Calls Try.prog 7 #[.agg #[.slice A0_0 l0_0.length c0_0], .slice A1 l1.length c1] w fun e w' => e = .returned (.bool true) ∧ Below w.heap.size w w' := by
  have hu24 := Try.underlying24
  have hu31 := Try.underlying31
  have HR0_0 := Aside0.mk hr0_0
  have HC0_0 := Aside0.mk hc0_0
  clear hr0_0 hc0_0
  have HR1 := Aside0.mk hr1
  have HC1 := Aside0.mk hc1
  clear hr1 hc1
  have E1 := Aside0.mk hE1
  clear hE1
  have E2 := Aside0.mk hE2
  clear hE2
  have d_z3 : decide (z3 < 0) = false := decide_eq_false hz3_no
  clear hz3_no
  have d_z5 : decide (z5 < 0) = true := decide_eq_true hz5_no
  clear hz5_no
  have HB := Aside0.mk (Below.refl w.heap.size w)
  obtain ⟨n0, hn0⟩ : ∃ n_, n_ = w.heap.size := ⟨_, rfl⟩
  have HZ := Aside0.mk (Nat.le_of_eq hn0 : n0 ≤ w.heap.size)
  clear hn0
  go_enter Try.func7, Try.ntmps7
  go_wp2_with (first | ((with_reducible refine gate_dst (N := 2) rfl ?_); refine box_event ?hg (N := 2) ?hd (cs := #[.slice A0_0 l0_0.length c0_0]) (t := 24) ?hr ?_; (case hd => rfl); (case hg => rfl); (case hr => first | (go_simp; done) | (go_simp; rfl)); intro gb2 hg_ w3001 hbox hb; have mB_ := Aside0.mk (below_step (by (repeat (first | (with_reducible first | exact HB.out | apply below_alloc | apply pw_below_drewN | apply below_drew1) | exact HB.out))) hb); have mL_ := Aside0.mk (by (repeat (first | exact HZ.out | (with_reducible first | apply sz_alloc | apply sz_drewN | apply sz_drew | apply sz_set))) : n0 ≤ _); obtain ⟨n1, hn_⟩ : ∃ n_, n_ = w3001.heap.size := ⟨_, rfl⟩; have mN_ := Aside0.mk (by rw [hn_]; exact Nat.le_trans mL_.out hb.size : n0 ≤ n1); have mZ_ := Aside0.mk (Nat.le_of_eq hn_ : n1 ≤ w3001.heap.size); have xBK2_ := Aside0.mk (hbox); have xGE2_ := Aside0.mk (by rw [hg_]; exact below_size (by (repeat (first | (with_reducible first | exact HB.out | apply below_alloc | apply pw_below_drewN | apply below_drew1) | exact HB.out))) : w.heap.size ≤ gb2); have xHI2_ := Aside0.mk (⟨by rw [hg_]; exact mL_.out, by rw [hn_]; exact blk_lt hbox⟩ : n0 ≤ gb2 ∧ gb2 < n1); clear HB HZ; have HB := mB_; have HZ := mZ_; have HN1 := mN_; have BK2 := xBK2_; have GE2 := xGE2_; have HI2 := xHI2_; clear mB_ mN_ mZ_ mL_ xBK2_ xGE2_ xHI2_; (try clear hn_); clear hb hbox hg_; have hc2_0 := (blk_cell BK2.out 0).trans (show (#[.slice A0_0 l0_0.length c0_0] : Array Value)[0]? = some (.slice A0_0 l0_0.length c0_0) from rfl); have hf2_0 := blk_frozen BK2.out 0) | ((with_reducible refine gate_callee (f := 12) rfl ?_); refine goesL_ (some 19) rfl rfl Try.func12 (by kernel_rfl) rfl #[.agg #[.slice A0_0 l0_0.length c0_0], .int .i64 1048576] rfl (by (try simp only [List.map_toArray, List.map_cons, List.map_nil]); first | done | rfl) ?_; (with_reducible refine (laws_szMemory.calls k _ _ l0_0 1048576 z3 _ ?sr0 ?sc0 E1.out).mono ?_); (case sr0 => exact Kd.C_below HR0_0.out (by (repeat (first | (with_reducible first | exact HB.out | apply below_alloc | apply pw_below_drewN | apply below_drew1 | refine below_set ?_ GE2.out) | exact HB.out)))); (case sc0 => exact HC0_0.out); rintro e w1004 ⟨rfl, hb⟩; refine ⟨_, rfl, ?_⟩; have m0_ := Aside0.mk (blk_below (g := gb2) (o := .cells #[.slice A0_0 l0_0.length c0_0] 24 (0, 0)) (by ((with_reducible repeat (first | refine blk_drewN ?_ _ | refine blk_drew ?_ | refine blk_alloc ?_ _)); exact BK2.out)) hb); have mB_ := Aside0.mk (below_step (by (repeat (first | (with_reducible first | exact HB.out | apply below_alloc | apply pw_below_drewN | apply below_drew1 | refine below_set ?_ GE2.out) | exact HB.out))) hb); have mL_ := Aside0.mk (by (repeat (first | exact HZ.out | (with_reducible first | apply sz_alloc | apply sz_drewN | apply sz_drew | apply sz_set))) : n1 ≤ _); obtain ⟨n2, hn_⟩ : ∃ n_, n_ = w1004.heap.size := ⟨_, rfl⟩; have mN_ := Aside0.mk (by rw [hn_]; exact Nat.le_trans mL_.out hb.size : n1 ≤ n2); have mZ_ := Aside0.mk (Nat.le_of_eq hn_ : n2 ≤ w1004.heap.size); clear BK2 HB HZ; have BK2 := m0_; have HB := mB_; have HZ := mZ_; have HN2 := mN_; clear m0_ mB_ mN_ mZ_ mL_; (try clear hn_); clear hb) | ((with_reducible refine gate_callee (f := 22) rfl ?_); refine goesL_ (some 24) rfl rfl Try.func22 (by kernel_rfl) rfl #[.slice A1 l1.length c1, .int .i64 z3] rfl (by (try simp only [List.map_toArray, List.map_cons, List.map_nil]); first | done | rfl) ?_; (with_reducible refine (laws_szWindowS.calls _ _ l1 z3 z5 _ ?sr0 ?sc0 E2.out).mono ?_); (case sr0 => exact Kd.C_below HR1.out (by (repeat (first | (with_reducible first | exact HB.out | apply below_alloc | apply pw_below_drewN | apply below_drew1 | refine below_set ?_ GE2.out) | exact HB.out)))); (case sc0 => exact HC1.out); rintro e w1007 ⟨rfl, hd_⟩; have hb := hd_.below; clear hd_; refine ⟨_, rfl, ?_⟩; have m0_ := Aside0.mk (blk_below (g := gb2) (o := .cells #[.slice A0_0 l0_0.length c0_0] 24 (0, 0)) (by ((with_reducible repeat (first | refine blk_drewN ?_ _ | refine blk_drew ?_ | refine blk_alloc ?_ _)); exact BK2.out)) hb); have mB_ := Aside0.mk (below_step (by (repeat (first | (with_reducible first | exact HB.out | apply below_alloc | apply pw_below_drewN | apply below_drew1 | refine below_set ?_ GE2.out) | exact HB.out))) hb); have mL_ := Aside0.mk (by (repeat (first | exact HZ.out | (with_reducible first | apply sz_alloc | apply sz_drewN | apply sz_drew | apply sz_set))) : n2 ≤ _); obtain ⟨n3, hn_⟩ : ∃ n_, n_ = w1007.heap.size := ⟨_, rfl⟩; have mN_ := Aside0.mk (by rw [hn_]; exact Nat.le_trans mL_.out hb.size : n2 ≤ n3); have mZ_ := Aside0.mk (Nat.le_of_eq hn_ : n3 ≤ w1007.heap.size); clear BK2 HB HZ; have BK2 := m0_; have HB := mB_; have HZ := mZ_; have HN3 := mN_; clear m0_ mB_ mN_ mZ_ mL_; (try clear hn_); clear hb; have hc7_0 := (blk_cell BK2.out 0).trans (show (#[.slice A0_0 l0_0.length c0_0] : Array Value)[0]? = some (.slice A0_0 l0_0.length c0_0) from rfl); have hf7_0 := blk_frozen BK2.out 0))
  go_ret
  exact ⟨rfl, by (repeat (first | (with_reducible first | exact HB.out | apply below_alloc | apply pw_below_drewN | apply below_drew1 | refine below_set ?_ GE2.out) | exact HB.out))⟩
set_option maxHeartbeats 8000000 in
set_option maxRecDepth 100000 in
theorem laws_FnExactTakeSnapshot.walk (k : Nat) (A0_0 : Option Addr) (c0_0 : Nat) (l0_0 : List (List Int)) (A1 : Option Addr) (c1 : Nat) (l1 : List S26) (z3 : Int) (z5 : Int) (t9 : List (List Int)) (t13 : List (S33)) (g16 : List (List Int)) (ok17 : Bool) (s18 : List (List Int)) (m49 : Int) (y50 : List (List Int)) (m52 : Int) (y53 : List (S33)) (m59 : Int) (y60 : List (List Int)) (w : World) (hr0_0 : Kd.C (Kd.slice 5 (Kd.int .u8)) w A0_0 l0_0.length l0_0) (hc0_0 : l0_0.length ≤ c0_0) (hr1 : Kd.C k26 w A1 l1.length l1) (hc1 : l1.length ≤ c1) (hE1 : laws_szMemory.f k l0_0 1048576 = some z3) (hE2 : laws_szWindowS.f l1 z3 = some z5) (hE3 : laws_toMemory.f k l0_0 = some t9) (hE4 : laws_toWindowS.f k l1 = some t13) (hE5 : spec_TakeSnapshot.f k t9 t13 = some (s18, ok17)) (hE8 : impl_TakeSnapshot.f k t9 t13 = some (g16, ok17)) (hE9 : laws_eqMemory.f k g16 s18 = some true) (hE11 : laws_eqMemory.f k t9 t9 = some true) (hE13 : laws_eqWindowS.f k t13 t13 = some true) (hE14 : laws_markMemory.f k t9 1 = some (m49, y50)) (hE15 : laws_markWindowS.f k t13 m49 = some (m52, y53)) (hE17 : laws_markMemory.f k g16 1 = some (m59, y60)) (hE18 : laws_heldMemory.f k y60 1 = some m59) (hz3_no : ¬ z3 < 0) (hz5_no : ¬ z5 < 0) (hm49_no : ¬ m49 < 0) (hm52_no : ¬ m52 < 0) (hm59_no : ¬ m59 < 0) :
    Calls Try.prog 7 #[.agg #[.slice A0_0 l0_0.length c0_0], .slice A1 l1.length c1] w fun e w' => e = .returned (.bool true) ∧ Below w.heap.size w w' := by
  have hu24 := Try.underlying24
  have hu31 := Try.underlying31
  have HR0_0 := Aside0.mk hr0_0
  have HC0_0 := Aside0.mk hc0_0
  clear hr0_0 hc0_0
  have HR1 := Aside0.mk hr1
  have HC1 := Aside0.mk hc1
  clear hr1 hc1
  have E1 := Aside0.mk hE1
  clear hE1
  have E2 := Aside0.mk hE2
  clear hE2
  have E3 := Aside0.mk hE3
  clear hE3
  have E4 := Aside0.mk hE4
  clear hE4
  have E5 := Aside0.mk hE5
  clear hE5
  have E8 := Aside0.mk hE8
  clear hE8
  have E9 := Aside0.mk hE9
  clear hE9
  have E11 := Aside0.mk hE11
  clear hE11
  have E13 := Aside0.mk hE13
  clear hE13
  have E14 := Aside0.mk hE14
  clear hE14
  have E15 := Aside0.mk hE15
  clear hE15
  have E17 := Aside0.mk hE17
  clear hE17
  have E18 := Aside0.mk hE18
  clear hE18
  have d_z3 : decide (z3 < 0) = false := decide_eq_false hz3_no
  clear hz3_no
  have d_z5 : decide (z5 < 0) = false := decide_eq_false hz5_no
  clear hz5_no
  have d_m49 : decide (m49 < 0) = false := decide_eq_false hm49_no
  clear hm49_no
  have d_m52 : decide (m52 < 0) = false := decide_eq_false hm52_no
  clear hm52_no
  have d_m59 : decide (m59 < 0) = false := decide_eq_false hm59_no
  clear hm59_no
  have b_ok17 : (ok17 != ok17) = false := by cases ok17 <;> rfl
  have HB := Aside0.mk (Below.refl w.heap.size w)
  obtain ⟨n0, hn0⟩ : ∃ n_, n_ = w.heap.size := ⟨_, rfl⟩
  have HZ := Aside0.mk (Nat.le_of_eq hn0 : n0 ≤ w.heap.size)
  clear hn0
  go_enter Try.func7, Try.ntmps7
  go_upto_region 14 with (first | ((with_reducible refine gate_dst (N := 2) rfl ?_); refine box_event ?hg (N := 2) ?hd (cs := #[.slice A0_0 l0_0.length c0_0]) (t := 24) ?hr ?_; (case hd => rfl); (case hg => rfl); (case hr => first | (go_simp; done) | (go_simp; rfl)); intro gb2 hg_ w3001 hbox hb; have mB_ := Aside0.mk (below_step (by (repeat (first | (with_reducible first | exact HB.out | apply below_alloc | apply pw_below_drewN | apply below_drew1) | exact HB.out))) hb); have mL_ := Aside0.mk (by (repeat (first | exact HZ.out | (with_reducible first | apply sz_alloc | apply sz_drewN | apply sz_drew | apply sz_set))) : n0 ≤ _); obtain ⟨n1, hn_⟩ : ∃ n_, n_ = w3001.heap.size := ⟨_, rfl⟩; have mN_ := Aside0.mk (by rw [hn_]; exact Nat.le_trans mL_.out hb.size : n0 ≤ n1); have mZ_ := Aside0.mk (Nat.le_of_eq hn_ : n1 ≤ w3001.heap.size); have xBK2_ := Aside0.mk (hbox); have xGE2_ := Aside0.mk (by rw [hg_]; exact below_size (by (repeat (first | (with_reducible first | exact HB.out | apply below_alloc | apply pw_below_drewN | apply below_drew1) | exact HB.out))) : w.heap.size ≤ gb2); have xHI2_ := Aside0.mk (⟨by rw [hg_]; exact mL_.out, by rw [hn_]; exact blk_lt hbox⟩ : n0 ≤ gb2 ∧ gb2 < n1); clear HB HZ; have HB := mB_; have HZ := mZ_; have HN1 := mN_; have BK2 := xBK2_; have GE2 := xGE2_; have HI2 := xHI2_; clear mB_ mN_ mZ_ mL_ xBK2_ xGE2_ xHI2_; (try clear hn_); clear hb hbox hg_; have hc2_0 := (blk_cell BK2.out 0).trans (show (#[.slice A0_0 l0_0.length c0_0] : Array Value)[0]? = some (.slice A0_0 l0_0.length c0_0) from rfl); have hf2_0 := blk_frozen BK2.out 0) | ((with_reducible refine gate_callee (f := 12) rfl ?_); refine goesL_ (some 19) rfl rfl Try.func12 (by kernel_rfl) rfl #[.agg #[.slice A0_0 l0_0.length c0_0], .int .i64 1048576] rfl (by (try simp only [List.map_toArray, List.map_cons, List.map_nil]); first | done | rfl) ?_; (with_reducible refine (laws_szMemory.calls k _ _ l0_0 1048576 z3 _ ?sr0 ?sc0 E1.out).mono ?_); (case sr0 => exact Kd.C_below HR0_0.out (by (repeat (first | (with_reducible first | exact HB.out | apply below_alloc | apply pw_below_drewN | apply below_drew1 | refine below_set ?_ GE2.out) | exact HB.out)))); (case sc0 => exact HC0_0.out); rintro e w1004 ⟨rfl, hb⟩; refine ⟨_, rfl, ?_⟩; have m0_ := Aside0.mk (blk_below (g := gb2) (o := .cells #[.slice A0_0 l0_0.length c0_0] 24 (0, 0)) (by ((with_reducible repeat (first | refine blk_drewN ?_ _ | refine blk_drew ?_ | refine blk_alloc ?_ _)); exact BK2.out)) hb); have mB_ := Aside0.mk (below_step (by (repeat (first | (with_reducible first | exact HB.out | apply below_alloc | apply pw_below_drewN | apply below_drew1 | refine below_set ?_ GE2.out) | exact HB.out))) hb); have mL_ := Aside0.mk (by (repeat (first | exact HZ.out | (with_reducible first | apply sz_alloc | apply sz_drewN | apply sz_drew | apply sz_set))) : n1 ≤ _); obtain ⟨n2, hn_⟩ : ∃ n_, n_ = w1004.heap.size := ⟨_, rfl⟩; have mN_ := Aside0.mk (by rw [hn_]; exact Nat.le_trans mL_.out hb.size : n1 ≤ n2); have mZ_ := Aside0.mk (Nat.le_of_eq hn_ : n2 ≤ w1004.heap.size); clear BK2 HB HZ; have BK2 := m0_; have HB := mB_; have HZ := mZ_; have HN2 := mN_; clear m0_ mB_ mN_ mZ_ mL_; (try clear hn_); clear hb) | ((with_reducible refine gate_callee (f := 22) rfl ?_); refine goesL_ (some 24) rfl rfl Try.func22 (by kernel_rfl) rfl #[.slice A1 l1.length c1, .int .i64 z3] rfl (by (try simp only [List.map_toArray, List.map_cons, List.map_nil]); first | done | rfl) ?_; (with_reducible refine (laws_szWindowS.calls _ _ l1 z3 z5 _ ?sr0 ?sc0 E2.out).mono ?_); (case sr0 => exact Kd.C_below HR1.out (by (repeat (first | (with_reducible first | exact HB.out | apply below_alloc | apply pw_below_drewN | apply below_drew1 | refine below_set ?_ GE2.out) | exact HB.out)))); (case sc0 => exact HC1.out); rintro e w1007 ⟨rfl, hd_⟩; have hb := hd_.below; clear hd_; refine ⟨_, rfl, ?_⟩; have m0_ := Aside0.mk (blk_below (g := gb2) (o := .cells #[.slice A0_0 l0_0.length c0_0] 24 (0, 0)) (by ((with_reducible repeat (first | refine blk_drewN ?_ _ | refine blk_drew ?_ | refine blk_alloc ?_ _)); exact BK2.out)) hb); have mB_ := Aside0.mk (below_step (by (repeat (first | (with_reducible first | exact HB.out | apply below_alloc | apply pw_below_drewN | apply below_drew1 | refine below_set ?_ GE2.out) | exact HB.out))) hb); have mL_ := Aside0.mk (by (repeat (first | exact HZ.out | (with_reducible first | apply sz_alloc | apply sz_drewN | apply sz_drew | apply sz_set))) : n2 ≤ _); obtain ⟨n3, hn_⟩ : ∃ n_, n_ = w1007.heap.size := ⟨_, rfl⟩; have mN_ := Aside0.mk (by rw [hn_]; exact Nat.le_trans mL_.out hb.size : n2 ≤ n3); have mZ_ := Aside0.mk (Nat.le_of_eq hn_ : n3 ≤ w1007.heap.size); clear BK2 HB HZ; have BK2 := m0_; have HB := mB_; have HZ := mZ_; have HN3 := mN_; clear m0_ mB_ mN_ mZ_ mL_; (try clear hn_); clear hb; have hc7_0 := (blk_cell BK2.out 0).trans (show (#[.slice A0_0 l0_0.length c0_0] : Array Value)[0]? = some (.slice A0_0 l0_0.length c0_0) from rfl); have hf7_0 := blk_frozen BK2.out 0) | ((with_reducible refine gate_callee (f := 14) rfl ?_); refine goesL_ (some 29) rfl rfl Try.func14 (by kernel_rfl) rfl #[.agg #[.slice A0_0 l0_0.length c0_0]] rfl (by (try simp only [List.map_toArray, List.map_cons, List.map_nil]); first | done | rfl) ?_; (with_reducible refine (laws_toMemory.calls k _ _ l0_0 t9 _ ?sr0 ?sc0 E3.out).mono ?_); (case sr0 => exact Kd.C_below HR0_0.out (by (repeat (first | (with_reducible first | exact HB.out | apply below_alloc | apply pw_below_drewN | apply below_drew1 | refine below_set ?_ GE2.out) | exact HB.out)))); (case sc0 => exact HC0_0.out); rintro e w1012 ⟨v3_0, rfl, ho0_, hb⟩; refine ⟨_, rfl, ?_⟩; have m0_ := Aside0.mk (blk_below (g := gb2) (o := .cells #[.slice A0_0 l0_0.length c0_0] 24 (0, 0)) (by ((with_reducible repeat (first | refine blk_drewN ?_ _ | refine blk_drew ?_ | refine blk_alloc ?_ _)); exact BK2.out)) hb); have mB_ := Aside0.mk (below_step (by (repeat (first | (with_reducible first | exact HB.out | apply below_alloc | apply pw_below_drewN | apply below_drew1 | refine below_set ?_ GE2.out) | exact HB.out))) hb); have mL_ := Aside0.mk (by (repeat (first | exact HZ.out | (with_reducible first | apply sz_alloc | apply sz_drewN | apply sz_drew | apply sz_set))) : n3 ≤ _); obtain ⟨n4, hn_⟩ : ∃ n_, n_ = w1012.heap.size := ⟨_, rfl⟩; have mN_ := Aside0.mk (by rw [hn_]; exact Nat.le_trans mL_.out hb.size : n3 ≤ n4); have mZ_ := Aside0.mk (Nat.le_of_eq hn_ : n4 ≤ w1012.heap.size); have xHO11_ := Aside0.mk (show Kd.S (Kd.slice 5 (Kd.int .u8)) 28 w1012 w.heap.size (fun k_ => n3 ≤ k_ ∧ k_ < n4) _ t9 from Kd.S_mono (Kd.S_lower (Kd.S_bound ho0_) (below_size (by (repeat (first | (with_reducible first | exact HB.out | apply below_alloc | apply pw_below_drewN | apply below_drew1 | refine below_set ?_ GE2.out) | exact HB.out))))) (fun k_ hk_ => ⟨Nat.le_trans mL_.out hk_.2.1, by rw [hn_]; exact hk_.2.2.1⟩)); clear BK2 HB HZ; have BK2 := m0_; have HB := mB_; have HZ := mZ_; have HN4 := mN_; have HO11 := xHO11_; clear m0_ mB_ mN_ mZ_ mL_ xHO11_; (try clear hn_); clear hb ho0_; obtain ⟨Ao11, co11, eo_⟩ := Kd.S_slice HO11.out; subst eo_) | ((with_reducible refine gate_callee (f := 24) rfl ?_); refine goesL_ (some 31) rfl rfl Try.func24 (by kernel_rfl) rfl #[.slice A1 l1.length c1] rfl (by (try simp only [List.map_toArray, List.map_cons, List.map_nil]); first | done | rfl) ?_; (with_reducible refine (laws_toWindowS.calls k _ _ l1 t13 _ ?sr0 ?sc0 E4.out).mono ?_); (case sr0 => exact Kd.C_below HR1.out (by (repeat (first | (with_reducible first | exact HB.out | apply below_alloc | apply pw_below_drewN | apply below_drew1 | refine below_set ?_ GE2.out) | exact HB.out)))); (case sc0 => exact HC1.out); rintro e w1017 ⟨v4_0, rfl, ho0_, hb⟩; refine ⟨_, rfl, ?_⟩; have m0_ := Aside0.mk (blk_below (g := gb2) (o := .cells #[.slice A0_0 l0_0.length c0_0] 24 (0, 0)) (by ((with_reducible repeat (first | refine blk_drewN ?_ _ | refine blk_drew ?_ | refine blk_alloc ?_ _)); exact BK2.out)) hb); have m1_ := Aside0.mk (Kd.S_below (by ((with_reducible repeat (first | apply Kd.S_alloc | apply Kd.S_drewN | apply Kd.S_drew)); exact HO11.out)) hb); have mB_ := Aside0.mk (below_step (by (repeat (first | (with_reducible first | exact HB.out | apply below_alloc | apply pw_below_drewN | apply below_drew1 | refine below_set ?_ GE2.out) | exact HB.out))) hb); have mL_ := Aside0.mk (by (repeat (first | exact HZ.out | (with_reducible first | apply sz_alloc | apply sz_drewN | apply sz_drew | apply sz_set))) : n4 ≤ _); obtain ⟨n5, hn_⟩ : ∃ n_, n_ = w1017.heap.size := ⟨_, rfl⟩; have mN_ := Aside0.mk (by rw [hn_]; exact Nat.le_trans mL_.out hb.size : n4 ≤ n5); have mZ_ := Aside0.mk (Nat.le_of_eq hn_ : n5 ≤ w1017.heap.size); have xHO15_ := Aside0.mk (show Kd.R k33 33 w1017 w.heap.size (fun k_ => n4 ≤ k_ ∧ k_ < n5) _ t13 from Kd.R_mono (Kd.R_lower (Kd.R_bound ho0_) (below_size (by (repeat (first | (with_reducible first | exact HB.out | apply below_alloc | apply pw_below_drewN | apply below_drew1 | refine below_set ?_ GE2.out) | exact HB.out))))) (fun k_ hk_ => ⟨Nat.le_trans mL_.out hk_.2.1, by rw [hn_]; exact hk_.2.2.1⟩)); clear BK2 HO11 HB HZ; have BK2 := m0_; have HO11 := m1_; have HB := mB_; have HZ := mZ_; have HN5 := mN_; have HO15 := xHO15_; clear m0_ m1_ mB_ mN_ mZ_ mL_ xHO15_; (try clear hn_); clear hb ho0_; obtain ⟨Ao15, co15, eo_⟩ := Kd.R_slice HO15.out; subst eo_) | ((with_reducible refine gate_callee (f := 35) rfl ?_); refine goesL_ (some 32) rfl rfl Try.func35 (by kernel_rfl) rfl #[.agg #[.slice Ao11 t9.length co11], .slice Ao15 t13.length co15] rfl (by (try simp only [List.map_toArray, List.map_cons, List.map_nil]); first | done | rfl) ?_; (with_reducible refine (spec_TakeSnapshot.calls k _ _ t9 _ _ t13 s18 ok17 _ ?sr0 ?sc0 ?sr1 ?sc1 E5.out).mono ?_); (case sr0 => repeat (first | exact (Kd.S_reads' HO11.out).2.2 | (with_reducible refine Kd.C_alloc ?_ _) | (with_reducible refine Kd.C_drewN ?_ _) | (with_reducible refine Kd.C_drew ?_))); (case sc0 => first | exact (Kd.S_reads' HO11.out).2.1 | exact Nat.le_trans (Nat.le_of_eq (Kd.S_reads' HO11.out).1.symm) (Kd.S_reads' HO11.out).2.1); (case sr1 => repeat (first | exact (Kd.R_reads' HO15.out).2.2 | (with_reducible refine Kd.C_alloc ?_ _) | (with_reducible refine Kd.C_drewN ?_ _) | (with_reducible refine Kd.C_drew ?_))); (case sc1 => first | exact (Kd.R_reads' HO15.out).2.1 | exact Nat.le_trans (Nat.le_of_eq (Kd.R_reads' HO15.out).1.symm) (Kd.R_reads' HO15.out).2.1); rintro e w1023 ⟨v5_0, rfl, ho0_, hb⟩; refine ⟨_, rfl, ?_⟩; have m0_ := Aside0.mk (blk_below (g := gb2) (o := .cells #[.slice A0_0 l0_0.length c0_0] 24 (0, 0)) (by ((with_reducible repeat (first | refine blk_drewN ?_ _ | refine blk_drew ?_ | refine blk_alloc ?_ _)); exact BK2.out)) hb); have m1_ := Aside0.mk (Kd.S_below (by ((with_reducible repeat (first | apply Kd.S_alloc | apply Kd.S_drewN | apply Kd.S_drew)); exact HO11.out)) hb); have m2_ := Aside0.mk (Kd.R_below (by ((with_reducible repeat (first | apply Kd.R_alloc | apply Kd.R_drewN | apply Kd.R_drew)); exact HO15.out)) hb); have mB_ := Aside0.mk (below_step (by (repeat (first | (with_reducible first | exact HB.out | apply below_alloc | apply pw_below_drewN | apply below_drew1 | refine below_set ?_ GE2.out) | exact HB.out))) hb); have mL_ := Aside0.mk (by (repeat (first | exact HZ.out | (with_reducible first | apply sz_alloc | apply sz_drewN | apply sz_drew | apply sz_set))) : n5 ≤ _); obtain ⟨n6, hn_⟩ : ∃ n_, n_ = w1023.heap.size := ⟨_, rfl⟩; have mN_ := Aside0.mk (by rw [hn_]; exact Nat.le_trans mL_.out hb.size : n5 ≤ n6); have mZ_ := Aside0.mk (Nat.le_of_eq hn_ : n6 ≤ w1023.heap.size); have xHO20_ := Aside0.mk (show Kd.S (Kd.slice 5 (Kd.int .u8)) 28 w1023 w.heap.size (fun k_ => n5 ≤ k_ ∧ k_ < n6) _ s18 from Kd.S_mono (Kd.S_lower (Kd.S_bound ho0_) (below_size (by (repeat (first | (with_reducible first | exact HB.out | apply below_alloc | apply pw_below_drewN | apply below_drew1 | refine below_set ?_ GE2.out) | exact HB.out))))) (fun k_ hk_ => ⟨Nat.le_trans mL_.out hk_.2.1, by rw [hn_]; exact hk_.2.2.1⟩)); clear BK2 HO11 HO15 HB HZ; have BK2 := m0_; have HO11 := m1_; have HO15 := m2_; have HB := mB_; have HZ := mZ_; have HN6 := mN_; have HO20 := xHO20_; clear m0_ m1_ m2_ mB_ mN_ mZ_ mL_ xHO20_; (try clear hn_); clear hb ho0_; obtain ⟨Ao20, co20, eo_⟩ := Kd.S_slice HO20.out; subst eo_) | ((with_reducible refine gate_dst (N := 6) rfl ?_); refine box_event ?hg (N := 6) ?hd (cs := #[.slice none 0 0]) (t := 31) ?hr ?_; (case hd => rfl); (case hg => rfl); (case hr => first | (go_simp; done) | (go_simp; rfl)); intro gb6 hg_ w3021 hbox hb; have m0_ := Aside0.mk (blk_below (g := gb2) (o := .cells #[.slice A0_0 l0_0.length c0_0] 24 (0, 0)) (by ((with_reducible repeat (first | refine blk_drewN ?_ _ | refine blk_drew ?_ | refine blk_alloc ?_ _)); exact BK2.out)) hb); have m1_ := Aside0.mk (Kd.S_below (by ((with_reducible repeat (first | apply Kd.S_alloc | apply Kd.S_drewN | apply Kd.S_drew)); exact HO11.out)) hb); have m2_ := Aside0.mk (Kd.R_below (by ((with_reducible repeat (first | apply Kd.R_alloc | apply Kd.R_drewN | apply Kd.R_drew)); exact HO15.out)) hb); have m3_ := Aside0.mk (Kd.S_below (by ((with_reducible repeat (first | apply Kd.S_alloc | apply Kd.S_drewN | apply Kd.S_drew)); exact HO20.out)) hb); have mB_ := Aside0.mk (below_step (by (repeat (first | (with_reducible first | exact HB.out | apply below_alloc | apply pw_below_drewN | apply below_drew1 | refine below_set ?_ GE2.out) | exact HB.out))) hb); have mL_ := Aside0.mk (by (repeat (first | exact HZ.out | (with_reducible first | apply sz_alloc | apply sz_drewN | apply sz_drew | apply sz_set))) : n6 ≤ _); obtain ⟨n7, hn_⟩ : ∃ n_, n_ = w3021.heap.size := ⟨_, rfl⟩; have mN_ := Aside0.mk (by rw [hn_]; exact Nat.le_trans mL_.out hb.size : n6 ≤ n7); have mZ_ := Aside0.mk (Nat.le_of_eq hn_ : n7 ≤ w3021.heap.size); have xBK6_ := Aside0.mk (hbox); have xGE6_ := Aside0.mk (by rw [hg_]; exact below_size (by (repeat (first | (with_reducible first | exact HB.out | apply below_alloc | apply pw_below_drewN | apply below_drew1 | refine below_set ?_ GE2.out) | exact HB.out))) : w.heap.size ≤ gb6); have xHI6_ := Aside0.mk (⟨by rw [hg_]; exact mL_.out, by rw [hn_]; exact blk_lt hbox⟩ : n6 ≤ gb6 ∧ gb6 < n7); clear BK2 HO11 HO15 HO20 HB HZ; have BK2 := m0_; have HO11 := m1_; have HO15 := m2_; have HO20 := m3_; have HB := mB_; have HZ := mZ_; have HN7 := mN_; have BK6 := xBK6_; have GE6 := xGE6_; have HI6 := xHI6_; clear m0_ m1_ m2_ m3_ mB_ mN_ mZ_ mL_ xBK6_ xGE6_ xHI6_; (try clear hn_); clear hb hbox hg_; have hc22_0 := (blk_cell BK2.out 0).trans (show (#[.slice A0_0 l0_0.length c0_0] : Array Value)[0]? = some (.slice A0_0 l0_0.length c0_0) from rfl); have hf22_0 := blk_frozen BK2.out 0; have hna2_6 : gb2 ≠ gb6 := (by have h1_ := HI2.out; have h2_ := HI6.out; have q1_ := HN1.out; have q2_ := HN2.out; have q3_ := HN3.out; have q4_ := HN4.out; have q5_ := HN5.out; have q6_ := HN6.out; have q7_ := HN7.out; omega); have hnb2_6 := Ne.symm hna2_6; have hc23_0 := (blk_cell BK6.out 0).trans (show (#[.slice none 0 0] : Array Value)[0]? = some (.slice none 0 0) from rfl); have hf23_0 := blk_frozen BK6.out 0) | ((with_reducible refine gate_callee (f := 14) rfl ?_); refine goesL_ (some 36) rfl rfl Try.func14 (by kernel_rfl) rfl #[.agg #[.slice A0_0 l0_0.length c0_0]] rfl (by (try simp only [List.map_toArray, List.map_cons, List.map_nil]); first | done | rfl) ?_; (with_reducible refine (laws_toMemory.calls k _ _ l0_0 t9 _ ?sr0 ?sc0 E3.out).mono ?_); (case sr0 => exact Kd.C_below HR0_0.out (by (repeat (first | (with_reducible first | exact HB.out | apply below_alloc | apply pw_below_drewN | apply below_drew1 | refine below_set ?_ GE2.out | refine below_set ?_ GE6.out) | exact HB.out)))); (case sc0 => exact HC0_0.out); rintro e w1030 ⟨v6_0, rfl, ho0_, hb⟩; refine ⟨_, rfl, ?_⟩; have m0_ := Aside0.mk (blk_below (g := gb2) (o := .cells #[.slice A0_0 l0_0.length c0_0] 24 (0, 0)) (by ((with_reducible repeat (first | refine blk_drewN ?_ _ | refine blk_drew ?_ | refine blk_alloc ?_ _)); refine blk_far ?_ (by show gb2 ≠ gb6; have h1_ := HI2.out; have h2_ := HI6.out; have q1_ := HN1.out; have q2_ := HN2.out; have q3_ := HN3.out; have q4_ := HN4.out; have q5_ := HN5.out; have q6_ := HN6.out; have q7_ := HN7.out; omega) _; (with_reducible repeat (first | refine blk_drewN ?_ _ | refine blk_drew ?_ | refine blk_alloc ?_ _)); exact BK2.out)) hb); have m1_ := Aside0.mk (blk_below (g := gb6) (o := .cells #[.slice Ao20 s18.length co20] 31 (0, 0)) (by ((with_reducible repeat (first | refine blk_drewN ?_ _ | refine blk_drew ?_ | refine blk_alloc ?_ _)); refine blk_put (cs := #[.slice none 0 0]) ?_ 0 _ rfl; (with_reducible repeat (first | refine blk_drewN ?_ _ | refine blk_drew ?_ | refine blk_alloc ?_ _)); exact BK6.out)) hb); have m2_ := Aside0.mk (Kd.S_below (by ((with_reducible repeat (first | apply Kd.S_alloc | apply Kd.S_drewN | apply Kd.S_drew)); exact Kd.S_far (p := ⟨gb6, 0, none⟩) HO11.out (fun k_ hk_ => by show k_ ≠ gb6; have h2_ := HI6.out; have h3_ : n3 ≤ k_ ∧ k_ < n4 := hk_; clear hk_; have q1_ := HN1.out; have q2_ := HN2.out; have q3_ := HN3.out; have q4_ := HN4.out; have q5_ := HN5.out; have q6_ := HN6.out; have q7_ := HN7.out; omega) _)) hb); have m3_ := Aside0.mk (Kd.R_below (by ((with_reducible repeat (first | apply Kd.R_alloc | apply Kd.R_drewN | apply Kd.R_drew)); exact Kd.R_far (p := ⟨gb6, 0, none⟩) HO15.out (fun k_ hk_ => by show k_ ≠ gb6; have h2_ := HI6.out; have h3_ : n4 ≤ k_ ∧ k_ < n5 := hk_; clear hk_; have q1_ := HN1.out; have q2_ := HN2.out; have q3_ := HN3.out; have q4_ := HN4.out; have q5_ := HN5.out; have q6_ := HN6.out; have q7_ := HN7.out; omega) _)) hb); have m4_ := Aside0.mk (Kd.S_below (by ((with_reducible repeat (first | apply Kd.S_alloc | apply Kd.S_drewN | apply Kd.S_drew)); exact Kd.S_far (p := ⟨gb6, 0, none⟩) HO20.out (fun k_ hk_ => by show k_ ≠ gb6; have h2_ := HI6.out; have h3_ : n5 ≤ k_ ∧ k_ < n6 := hk_; clear hk_; have q1_ := HN1.out; have q2_ := HN2.out; have q3_ := HN3.out; have q4_ := HN4.out; have q5_ := HN5.out; have q6_ := HN6.out; have q7_ := HN7.out; omega) _)) hb); have mB_ := Aside0.mk (below_step (by (repeat (first | (with_reducible first | exact HB.out | apply below_alloc | apply pw_below_drewN | apply below_drew1 | refine below_set ?_ GE2.out | refine below_set ?_ GE6.out) | exact HB.out))) hb); have mL_ := Aside0.mk (sz_set (p := ⟨gb6, 0, none⟩) (v := .slice Ao20 s18.length co20) HZ.out); obtain ⟨n8, hn_⟩ : ∃ n_, n_ = w1030.heap.size := ⟨_, rfl⟩; have mN_ := Aside0.mk (by rw [hn_]; exact Nat.le_trans mL_.out hb.size : n7 ≤ n8); have mZ_ := Aside0.mk (Nat.le_of_eq hn_ : n8 ≤ w1030.heap.size); have xHO26_ := Aside0.mk (show Kd.S (Kd.slice 5 (Kd.int .u8)) 28 w1030 w.heap.size (fun k_ => n7 ≤ k_ ∧ k_ < n8) _ t9 from Kd.S_mono (Kd.S_lower (Kd.S_bound ho0_) (below_size (by (repeat (first | (with_reducible first | exact HB.out | apply below_alloc | apply pw_below_drewN | apply below_drew1 | refine below_set ?_ GE2.out | refine below_set ?_ GE6.out) | exact HB.out))))) (fun k_ hk_ => ⟨Nat.le_trans mL_.out hk_.2.1, by rw [hn_]; exact hk_.2.2.1⟩)); clear BK2 BK6 HO11 HO15 HO20 HB HZ; have BK2 := m0_; have BK6 := m1_; have HO11 := m2_; have HO15 := m3_; have HO20 := m4_; have HB := mB_; have HZ := mZ_; have HN8 := mN_; have HO26 := xHO26_; clear m0_ m1_ m2_ m3_ m4_ mB_ mN_ mZ_ mL_ xHO26_; (try clear hn_); clear hb ho0_; obtain ⟨Ao26, co26, eo_⟩ := Kd.S_slice HO26.out; subst eo_) | ((with_reducible refine gate_dst (N := 8) rfl ?_); refine box_event ?hg (N := 8) ?hd (cs := #[.slice none 0 0]) (t := 31) ?hr ?_; (case hd => rfl); (case hg => rfl); (case hr => first | (go_simp; done) | (go_simp; rfl)); intro gb8 hg_ w3027 hbox hb; have m0_ := Aside0.mk (blk_below (g := gb2) (o := .cells #[.slice A0_0 l0_0.length c0_0] 24 (0, 0)) (by ((with_reducible repeat (first | refine blk_drewN ?_ _ | refine blk_drew ?_ | refine blk_alloc ?_ _)); exact BK2.out)) hb); have m1_ := Aside0.mk (blk_below (g := gb6) (o := .cells #[.slice Ao20 s18.length co20] 31 (0, 0)) (by ((with_reducible repeat (first | refine blk_drewN ?_ _ | refine blk_drew ?_ | refine blk_alloc ?_ _)); exact BK6.out)) hb); have m2_ := Aside0.mk (Kd.S_below (by ((with_reducible repeat (first | apply Kd.S_alloc | apply Kd.S_drewN | apply Kd.S_drew)); exact HO11.out)) hb); have m3_ := Aside0.mk (Kd.R_below (by ((with_reducible repeat (first | apply Kd.R_alloc | apply Kd.R_drewN | apply Kd.R_drew)); exact HO15.out)) hb); have m4_ := Aside0.mk (Kd.S_below (by ((with_reducible repeat (first | apply Kd.S_alloc | apply Kd.S_drewN | apply Kd.S_drew)); exact HO20.out)) hb); have m5_ := Aside0.mk (Kd.S_below (by ((with_reducible repeat (first | apply Kd.S_alloc | apply Kd.S_drewN | apply Kd.S_drew)); exact HO26.out)) hb); have mB_ := Aside0.mk (below_step (by (repeat (first | (with_reducible first | exact HB.out | apply below_alloc | apply pw_below_drewN | apply below_drew1 | refine below_set ?_ GE2.out | refine below_set ?_ GE6.out) | exact HB.out))) hb); have mL_ := Aside0.mk (by (repeat (first | exact HZ.out | (with_reducible first | apply sz_alloc | apply sz_drewN | apply sz_drew | apply sz_set))) : n8 ≤ _); obtain ⟨n9, hn_⟩ : ∃ n_, n_ = w3027.heap.size := ⟨_, rfl⟩; have mN_ := Aside0.mk (by rw [hn_]; exact Nat.le_trans mL_.out hb.size : n8 ≤ n9); have mZ_ := Aside0.mk (Nat.le_of_eq hn_ : n9 ≤ w3027.heap.size); have xBK8_ := Aside0.mk (hbox); have xGE8_ := Aside0.mk (by rw [hg_]; exact below_size (by (repeat (first | (with_reducible first | exact HB.out | apply below_alloc | apply pw_below_drewN | apply below_drew1 | refine below_set ?_ GE2.out | refine below_set ?_ GE6.out) | exact HB.out))) : w.heap.size ≤ gb8); have xHI8_ := Aside0.mk (⟨by rw [hg_]; exact mL_.out, by rw [hn_]; exact blk_lt hbox⟩ : n8 ≤ gb8 ∧ gb8 < n9); clear BK2 BK6 HO11 HO15 HO20 HO26 HB HZ; have BK2 := m0_; have BK6 := m1_; have HO11 := m2_; have HO15 := m3_; have HO20 := m4_; have HO26 := m5_; have HB := mB_; have HZ := mZ_; have HN9 := mN_; have BK8 := xBK8_; have GE8 := xGE8_; have HI8 := xHI8_; clear m0_ m1_ m2_ m3_ m4_ m5_ mB_ mN_ mZ_ mL_ xBK8_ xGE8_ xHI8_; (try clear hn_); clear hb hbox hg_; have hc28_0 := (blk_cell BK8.out 0).trans (show (#[.slice none 0 0] : Array Value)[0]? = some (.slice none 0 0) from rfl); have hf28_0 := blk_frozen BK8.out 0) | ((with_reducible refine gate_callee (f := 24) rfl ?_); refine goesL_ (some 38) rfl rfl Try.func24 (by kernel_rfl) rfl #[.slice A1 l1.length c1] rfl (by (try simp only [List.map_toArray, List.map_cons, List.map_nil]); first | done | rfl) ?_; (with_reducible refine (laws_toWindowS.calls k _ _ l1 t13 _ ?sr0 ?sc0 E4.out).mono ?_); (case sr0 => exact Kd.C_below HR1.out (by (repeat (first | (with_reducible first | exact HB.out | apply below_alloc | apply pw_below_drewN | apply below_drew1 | refine below_set ?_ GE2.out | refine below_set ?_ GE6.out | refine below_set ?_ GE8.out) | exact HB.out)))); (case sc0 => exact HC1.out); rintro e w1036 ⟨v7_0, rfl, ho0_, hb⟩; refine ⟨_, rfl, ?_⟩; have m0_ := Aside0.mk (blk_below (g := gb2) (o := .cells #[.slice A0_0 l0_0.length c0_0] 24 (0, 0)) (by ((with_reducible repeat (first | refine blk_drewN ?_ _ | refine blk_drew ?_ | refine blk_alloc ?_ _)); refine blk_far ?_ (by show gb2 ≠ gb8; have h1_ := HI2.out; have h2_ := HI8.out; have q1_ := HN1.out; have q2_ := HN2.out; have q3_ := HN3.out; have q4_ := HN4.out; have q5_ := HN5.out; have q6_ := HN6.out; have q7_ := HN7.out; have q8_ := HN8.out; have q9_ := HN9.out; omega) _; (with_reducible repeat (first | refine blk_drewN ?_ _ | refine blk_drew ?_ | refine blk_alloc ?_ _)); exact BK2.out)) hb); have m1_ := Aside0.mk (blk_below (g := gb6) (o := .cells #[.slice Ao20 s18.length co20] 31 (0, 0)) (by ((with_reducible repeat (first | refine blk_drewN ?_ _ | refine blk_drew ?_ | refine blk_alloc ?_ _)); refine blk_far ?_ (by show gb6 ≠ gb8; have h1_ := HI6.out; have h2_ := HI8.out; have q1_ := HN1.out; have q2_ := HN2.out; have q3_ := HN3.out; have q4_ := HN4.out; have q5_ := HN5.out; have q6_ := HN6.out; have q7_ := HN7.out; have q8_ := HN8.out; have q9_ := HN9.out; omega) _; (with_reducible repeat (first | refine blk_drewN ?_ _ | refine blk_drew ?_ | refine blk_alloc ?_ _)); exact BK6.out)) hb); have m2_ := Aside0.mk (blk_below (g := gb8) (o := .cells #[.slice Ao26 t9.length co26] 31 (0, 0)) (by ((with_reducible repeat (first | refine blk_drewN ?_ _ | refine blk_drew ?_ | refine blk_alloc ?_ _)); refine blk_put (cs := #[.slice none 0 0]) ?_ 0 _ rfl; (with_reducible repeat (first | refine blk_drewN ?_ _ | refine blk_drew ?_ | refine blk_alloc ?_ _)); exact BK8.out)) hb); have m3_ := Aside0.mk (Kd.S_below (by ((with_reducible repeat (first | apply Kd.S_alloc | apply Kd.S_drewN | apply Kd.S_drew)); exact Kd.S_far (p := ⟨gb8, 0, none⟩) HO11.out (fun k_ hk_ => by show k_ ≠ gb8; have h2_ := HI8.out; have h3_ : n3 ≤ k_ ∧ k_ < n4 := hk_; clear hk_; have q1_ := HN1.out; have q2_ := HN2.out; have q3_ := HN3.out; have q4_ := HN4.out; have q5_ := HN5.out; have q6_ := HN6.out; have q7_ := HN7.out; have q8_ := HN8.out; have q9_ := HN9.out; omega) _)) hb); have m4_ := Aside0.mk (Kd.R_below (by ((with_reducible repeat (first | apply Kd.R_alloc | apply Kd.R_drewN | apply Kd.R_drew)); exact Kd.R_far (p := ⟨gb8, 0, none⟩) HO15.out (fun k_ hk_ => by show k_ ≠ gb8; have h2_ := HI8.out; have h3_ : n4 ≤ k_ ∧ k_ < n5 := hk_; clear hk_; have q1_ := HN1.out; have q2_ := HN2.out; have q3_ := HN3.out; have q4_ := HN4.out; have q5_ := HN5.out; have q6_ := HN6.out; have q7_ := HN7.out; have q8_ := HN8.out; have q9_ := HN9.out; omega) _)) hb); have m5_ := Aside0.mk (Kd.S_below (by ((with_reducible repeat (first | apply Kd.S_alloc | apply Kd.S_drewN | apply Kd.S_drew)); exact Kd.S_far (p := ⟨gb8, 0, none⟩) HO20.out (fun k_ hk_ => by show k_ ≠ gb8; have h2_ := HI8.out; have h3_ : n5 ≤ k_ ∧ k_ < n6 := hk_; clear hk_; have q1_ := HN1.out; have q2_ := HN2.out; have q3_ := HN3.out; have q4_ := HN4.out; have q5_ := HN5.out; have q6_ := HN6.out; have q7_ := HN7.out; have q8_ := HN8.out; have q9_ := HN9.out; omega) _)) hb); have m6_ := Aside0.mk (Kd.S_below (by ((with_reducible repeat (first | apply Kd.S_alloc | apply Kd.S_drewN | apply Kd.S_drew)); exact Kd.S_far (p := ⟨gb8, 0, none⟩) HO26.out (fun k_ hk_ => by show k_ ≠ gb8; have h2_ := HI8.out; have h3_ : n7 ≤ k_ ∧ k_ < n8 := hk_; clear hk_; have q1_ := HN1.out; have q2_ := HN2.out; have q3_ := HN3.out; have q4_ := HN4.out; have q5_ := HN5.out; have q6_ := HN6.out; have q7_ := HN7.out; have q8_ := HN8.out; have q9_ := HN9.out; omega) _)) hb); have mB_ := Aside0.mk (below_step (by (repeat (first | (with_reducible first | exact HB.out | apply below_alloc | apply pw_below_drewN | apply below_drew1 | refine below_set ?_ GE2.out | refine below_set ?_ GE6.out | refine below_set ?_ GE8.out) | exact HB.out))) hb); have mL_ := Aside0.mk (sz_set (p := ⟨gb8, 0, none⟩) (v := .slice Ao26 t9.length co26) HZ.out); obtain ⟨n10, hn_⟩ : ∃ n_, n_ = w1036.heap.size := ⟨_, rfl⟩; have mN_ := Aside0.mk (by rw [hn_]; exact Nat.le_trans mL_.out hb.size : n9 ≤ n10); have mZ_ := Aside0.mk (Nat.le_of_eq hn_ : n10 ≤ w1036.heap.size); have xHO31_ := Aside0.mk (show Kd.R k33 33 w1036 w.heap.size (fun k_ => n9 ≤ k_ ∧ k_ < n10) _ t13 from Kd.R_mono (Kd.R_lower (Kd.R_bound ho0_) (below_size (by (repeat (first | (with_reducible first | exact HB.out | apply below_alloc | apply pw_below_drewN | apply below_drew1 | refine below_set ?_ GE2.out | refine below_set ?_ GE6.out | refine below_set ?_ GE8.out) | exact HB.out))))) (fun k_ hk_ => ⟨Nat.le_trans mL_.out hk_.2.1, by rw [hn_]; exact hk_.2.2.1⟩)); clear BK2 BK6 BK8 HO11 HO15 HO20 HO26 HB HZ; have BK2 := m0_; have BK6 := m1_; have BK8 := m2_; have HO11 := m3_; have HO15 := m4_; have HO20 := m5_; have HO26 := m6_; have HB := mB_; have HZ := mZ_; have HN10 := mN_; have HO31 := xHO31_; clear m0_ m1_ m2_ m3_ m4_ m5_ m6_ mB_ mN_ mZ_ mL_ xHO31_; (try clear hn_); clear hb ho0_; obtain ⟨Ao31, co31, eo_⟩ := Kd.R_slice HO31.out; subst eo_; have hc32_0 := (blk_cell BK8.out 0).trans (show (#[.slice Ao26 t9.length co26] : Array Value)[0]? = some (.slice Ao26 t9.length co26) from rfl); have hf32_0 := blk_frozen BK8.out 0) | ((with_reducible refine gate_callee (f := 36) rfl ?_); refine goesL_ (some 42) rfl rfl Try.func36 (by kernel_rfl) rfl #[.agg #[.slice Ao26 t9.length co26], .slice Ao31 t13.length co31] rfl (by (try simp only [List.map_toArray, List.map_cons, List.map_nil]); first | done | rfl) ?_; (with_reducible refine (impl_TakeSnapshot.calls k _ _ t9 _ _ t13 g16 ok17 _ ?sr0 ?sc0 ?sr1 ?sc1 E8.out).mono ?_); (case sr0 => repeat (first | exact (Kd.S_reads' HO26.out).2.2 | (with_reducible refine Kd.C_alloc ?_ _) | (with_reducible refine Kd.C_drewN ?_ _) | (with_reducible refine Kd.C_drew ?_))); (case sc0 => first | exact (Kd.S_reads' HO26.out).2.1 | exact Nat.le_trans (Nat.le_of_eq (Kd.S_reads' HO26.out).1.symm) (Kd.S_reads' HO26.out).2.1); (case sr1 => repeat (first | exact (Kd.R_reads' HO31.out).2.2 | (with_reducible refine Kd.C_alloc ?_ _) | (with_reducible refine Kd.C_drewN ?_ _) | (with_reducible refine Kd.C_drew ?_))); (case sc1 => first | exact (Kd.R_reads' HO31.out).2.1 | exact Nat.le_trans (Nat.le_of_eq (Kd.R_reads' HO31.out).1.symm) (Kd.R_reads' HO31.out).2.1); rintro e w1040 ⟨v8_0, rfl, ho0_, hb⟩; refine ⟨_, rfl, ?_⟩; have m0_ := Aside0.mk (blk_below (g := gb2) (o := .cells #[.slice A0_0 l0_0.length c0_0] 24 (0, 0)) (by ((with_reducible repeat (first | refine blk_drewN ?_ _ | refine blk_drew ?_ | refine blk_alloc ?_ _)); exact BK2.out)) hb); have m1_ := Aside0.mk (blk_below (g := gb6) (o := .cells #[.slice Ao20 s18.length co20] 31 (0, 0)) (by ((with_reducible repeat (first | refine blk_drewN ?_ _ | refine blk_drew ?_ | refine blk_alloc ?_ _)); exact BK6.out)) hb); have m2_ := Aside0.mk (blk_below (g := gb8) (o := .cells #[.slice Ao26 t9.length co26] 31 (0, 0)) (by ((with_reducible repeat (first | refine blk_drewN ?_ _ | refine blk_drew ?_ | refine blk_alloc ?_ _)); exact BK8.out)) hb); have m3_ := Aside0.mk (Kd.S_below (by ((with_reducible repeat (first | apply Kd.S_alloc | apply Kd.S_drewN | apply Kd.S_drew)); exact HO11.out)) hb); have m4_ := Aside0.mk (Kd.R_below (by ((with_reducible repeat (first | apply Kd.R_alloc | apply Kd.R_drewN | apply Kd.R_drew)); exact HO15.out)) hb); have m5_ := Aside0.mk (Kd.S_below (by ((with_reducible repeat (first | apply Kd.S_alloc | apply Kd.S_drewN | apply Kd.S_drew)); exact HO20.out)) hb); have m6_ := Aside0.mk (Kd.S_below (by ((with_reducible repeat (first | apply Kd.S_alloc | apply Kd.S_drewN | apply Kd.S_drew)); exact HO26.out)) hb); have m7_ := Aside0.mk (Kd.R_below (by ((with_reducible repeat (first | apply Kd.R_alloc | apply Kd.R_drewN | apply Kd.R_drew)); exact HO31.out)) hb); have mB_ := Aside0.mk (below_step (by (repeat (first | (with_reducible first | exact HB.out | apply below_alloc | apply pw_below_drewN | apply below_drew1 | refine below_set ?_ GE2.out | refine below_set ?_ GE6.out | refine below_set ?_ GE8.out) | exact HB.out))) hb); have mL_ := Aside0.mk (by (repeat (first | exact HZ.out | (with_reducible first | apply sz_alloc | apply sz_drewN | apply sz_drew | apply sz_set))) : n10 ≤ _); obtain ⟨n11, hn_⟩ : ∃ n_, n_ = w1040.heap.size := ⟨_, rfl⟩; have mN_ := Aside0.mk (by rw [hn_]; exact Nat.le_trans mL_.out hb.size : n10 ≤ n11); have mZ_ := Aside0.mk (Nat.le_of_eq hn_ : n11 ≤ w1040.heap.size); have xHO34_ := Aside0.mk (show Kd.S (Kd.slice 5 (Kd.int .u8)) 28 w1040 w.heap.size (fun k_ => n10 ≤ k_ ∧ k_ < n11) _ g16 from Kd.S_mono (Kd.S_lower (Kd.S_bound ho0_) (below_size (by (repeat (first | (with_reducible first | exact HB.out | apply below_alloc | apply pw_below_drewN | apply below_drew1 | refine below_set ?_ GE2.out | refine below_set ?_ GE6.out | refine below_set ?_ GE8.out) | exact HB.out))))) (fun k_ hk_ => ⟨Nat.le_trans mL_.out hk_.2.1, by rw [hn_]; exact hk_.2.2.1⟩)); clear BK2 BK6 BK8 HO11 HO15 HO20 HO26 HO31 HB HZ; have BK2 := m0_; have BK6 := m1_; have BK8 := m2_; have HO11 := m3_; have HO15 := m4_; have HO20 := m5_; have HO26 := m6_; have HO31 := m7_; have HB := mB_; have HZ := mZ_; have HN11 := mN_; have HO34 := xHO34_; clear m0_ m1_ m2_ m3_ m4_ m5_ m6_ m7_ mB_ mN_ mZ_ mL_ xHO34_; (try clear hn_); clear hb ho0_; obtain ⟨Ao34, co34, eo_⟩ := Kd.S_slice HO34.out; subst eo_) | ((with_reducible refine gate_dst (N := 10) rfl ?_); refine box_event ?hg (N := 10) ?hd (cs := #[.slice none 0 0]) (t := 31) ?hr ?_; (case hd => rfl); (case hg => rfl); (case hr => first | (go_simp; done) | (go_simp; rfl)); intro gb10 hg_ w3035 hbox hb; have m0_ := Aside0.mk (blk_below (g := gb2) (o := .cells #[.slice A0_0 l0_0.length c0_0] 24 (0, 0)) (by ((with_reducible repeat (first | refine blk_drewN ?_ _ | refine blk_drew ?_ | refine blk_alloc ?_ _)); exact BK2.out)) hb); have m1_ := Aside0.mk (blk_below (g := gb6) (o := .cells #[.slice Ao20 s18.length co20] 31 (0, 0)) (by ((with_reducible repeat (first | refine blk_drewN ?_ _ | refine blk_drew ?_ | refine blk_alloc ?_ _)); exact BK6.out)) hb); have m2_ := Aside0.mk (blk_below (g := gb8) (o := .cells #[.slice Ao26 t9.length co26] 31 (0, 0)) (by ((with_reducible repeat (first | refine blk_drewN ?_ _ | refine blk_drew ?_ | refine blk_alloc ?_ _)); exact BK8.out)) hb); have m3_ := Aside0.mk (Kd.S_below (by ((with_reducible repeat (first | apply Kd.S_alloc | apply Kd.S_drewN | apply Kd.S_drew)); exact HO11.out)) hb); have m4_ := Aside0.mk (Kd.R_below (by ((with_reducible repeat (first | apply Kd.R_alloc | apply Kd.R_drewN | apply Kd.R_drew)); exact HO15.out)) hb); have m5_ := Aside0.mk (Kd.S_below (by ((with_reducible repeat (first | apply Kd.S_alloc | apply Kd.S_drewN | apply Kd.S_drew)); exact HO20.out)) hb); have m6_ := Aside0.mk (Kd.S_below (by ((with_reducible repeat (first | apply Kd.S_alloc | apply Kd.S_drewN | apply Kd.S_drew)); exact HO26.out)) hb); have m7_ := Aside0.mk (Kd.R_below (by ((with_reducible repeat (first | apply Kd.R_alloc | apply Kd.R_drewN | apply Kd.R_drew)); exact HO31.out)) hb); have m8_ := Aside0.mk (Kd.S_below (by ((with_reducible repeat (first | apply Kd.S_alloc | apply Kd.S_drewN | apply Kd.S_drew)); exact HO34.out)) hb); have mB_ := Aside0.mk (below_step (by (repeat (first | (with_reducible first | exact HB.out | apply below_alloc | apply pw_below_drewN | apply below_drew1 | refine below_set ?_ GE2.out | refine below_set ?_ GE6.out | refine below_set ?_ GE8.out) | exact HB.out))) hb); have mL_ := Aside0.mk (by (repeat (first | exact HZ.out | (with_reducible first | apply sz_alloc | apply sz_drewN | apply sz_drew | apply sz_set))) : n11 ≤ _); obtain ⟨n12, hn_⟩ : ∃ n_, n_ = w3035.heap.size := ⟨_, rfl⟩; have mN_ := Aside0.mk (by rw [hn_]; exact Nat.le_trans mL_.out hb.size : n11 ≤ n12); have mZ_ := Aside0.mk (Nat.le_of_eq hn_ : n12 ≤ w3035.heap.size); have xBK10_ := Aside0.mk (hbox); have xGE10_ := Aside0.mk (by rw [hg_]; exact below_size (by (repeat (first | (with_reducible first | exact HB.out | apply below_alloc | apply pw_below_drewN | apply below_drew1 | refine below_set ?_ GE2.out | refine below_set ?_ GE6.out | refine below_set ?_ GE8.out) | exact HB.out))) : w.heap.size ≤ gb10); have xHI10_ := Aside0.mk (⟨by rw [hg_]; exact mL_.out, by rw [hn_]; exact blk_lt hbox⟩ : n11 ≤ gb10 ∧ gb10 < n12); clear BK2 BK6 BK8 HO11 HO15 HO20 HO26 HO31 HO34 HB HZ; have BK2 := m0_; have BK6 := m1_; have BK8 := m2_; have HO11 := m3_; have HO15 := m4_; have HO20 := m5_; have HO26 := m6_; have HO31 := m7_; have HO34 := m8_; have HB := mB_; have HZ := mZ_; have HN12 := mN_; have BK10 := xBK10_; have GE10 := xGE10_; have HI10 := xHI10_; clear m0_ m1_ m2_ m3_ m4_ m5_ m6_ m7_ m8_ mB_ mN_ mZ_ mL_ xBK10_ xGE10_ xHI10_; (try clear hn_); clear hb hbox hg_; have hc36_0 := (blk_cell BK6.out 0).trans (show (#[.slice Ao20 s18.length co20] : Array Value)[0]? = some (.slice Ao20 s18.length co20) from rfl); have hf36_0 := blk_frozen BK6.out 0; have hna6_10 : gb6 ≠ gb10 := (by have h1_ := HI6.out; have h2_ := HI10.out; have q1_ := HN1.out; have q2_ := HN2.out; have q3_ := HN3.out; have q4_ := HN4.out; have q5_ := HN5.out; have q6_ := HN6.out; have q7_ := HN7.out; have q8_ := HN8.out; have q9_ := HN9.out; have q10_ := HN10.out; have q11_ := HN11.out; have q12_ := HN12.out; omega); have hnb6_10 := Ne.symm hna6_10; have hc37_0 := (blk_cell BK10.out 0).trans (show (#[.slice none 0 0] : Array Value)[0]? = some (.slice none 0 0) from rfl); have hf37_0 := blk_frozen BK10.out 0) | ((with_reducible refine gate_callee (f := 18) rfl ?_); refine goesL_ (some 47) rfl rfl Try.func18 (by kernel_rfl) rfl #[.agg #[.slice Ao34 g16.length co34], .agg #[.slice Ao20 s18.length co20]] rfl (by (try simp only [List.map_toArray, List.map_cons, List.map_nil]); first | done | rfl) ?_; (with_reducible refine (laws_eqMemory.calls k _ _ g16 _ _ s18 true _ ?sr0 ?sc0 ?sr1 ?sc1 E9.out).mono ?_); (case sr0 => exact (Kd.S_reads' (Kd.S_far (p := ⟨gb10, 0, none⟩) HO34.out (fun k_ hk_ => by show k_ ≠ gb10; have h2_ := HI10.out; have h3_ : n10 ≤ k_ ∧ k_ < n11 := hk_; clear hk_; have q1_ := HN1.out; have q2_ := HN2.out; have q3_ := HN3.out; have q4_ := HN4.out; have q5_ := HN5.out; have q6_ := HN6.out; have q7_ := HN7.out; have q8_ := HN8.out; have q9_ := HN9.out; have q10_ := HN10.out; have q11_ := HN11.out; have q12_ := HN12.out; omega) _)).2.2); (case sc0 => first | exact (Kd.S_reads' HO34.out).2.1 | exact Nat.le_trans (Nat.le_of_eq (Kd.S_reads' HO34.out).1.symm) (Kd.S_reads' HO34.out).2.1); (case sr1 => exact (Kd.S_reads' (Kd.S_far (p := ⟨gb10, 0, none⟩) HO20.out (fun k_ hk_ => by show k_ ≠ gb10; have h2_ := HI10.out; have h3_ : n5 ≤ k_ ∧ k_ < n6 := hk_; clear hk_; have q1_ := HN1.out; have q2_ := HN2.out; have q3_ := HN3.out; have q4_ := HN4.out; have q5_ := HN5.out; have q6_ := HN6.out; have q7_ := HN7.out; have q8_ := HN8.out; have q9_ := HN9.out; have q10_ := HN10.out; have q11_ := HN11.out; have q12_ := HN12.out; omega) _)).2.2); (case sc1 => first | exact (Kd.S_reads' HO20.out).2.1 | exact Nat.le_trans (Nat.le_of_eq (Kd.S_reads' HO20.out).1.symm) (Kd.S_reads' HO20.out).2.1); rintro e w1046 ⟨rfl, hb⟩; refine ⟨_, rfl, ?_⟩; have m0_ := Aside0.mk (blk_below (g := gb2) (o := .cells #[.slice A0_0 l0_0.length c0_0] 24 (0, 0)) (by ((with_reducible repeat (first | refine blk_drewN ?_ _ | refine blk_drew ?_ | refine blk_alloc ?_ _)); refine blk_far ?_ (by show gb2 ≠ gb10; have h1_ := HI2.out; have h2_ := HI10.out; have q1_ := HN1.out; have q2_ := HN2.out; have q3_ := HN3.out; have q4_ := HN4.out; have q5_ := HN5.out; have q6_ := HN6.out; have q7_ := HN7.out; have q8_ := HN8.out; have q9_ := HN9.out; have q10_ := HN10.out; have q11_ := HN11.out; have q12_ := HN12.out; omega) _; (with_reducible repeat (first | refine blk_drewN ?_ _ | refine blk_drew ?_ | refine blk_alloc ?_ _)); exact BK2.out)) hb); have m1_ := Aside0.mk (blk_below (g := gb6) (o := .cells #[.slice Ao20 s18.length co20] 31 (0, 0)) (by ((with_reducible repeat (first | refine blk_drewN ?_ _ | refine blk_drew ?_ | refine blk_alloc ?_ _)); refine blk_far ?_ (by show gb6 ≠ gb10; have h1_ := HI6.out; have h2_ := HI10.out; have q1_ := HN1.out; have q2_ := HN2.out; have q3_ := HN3.out; have q4_ := HN4.out; have q5_ := HN5.out; have q6_ := HN6.out; have q7_ := HN7.out; have q8_ := HN8.out; have q9_ := HN9.out; have q10_ := HN10.out; have q11_ := HN11.out; have q12_ := HN12.out; omega) _; (with_reducible repeat (first | refine blk_drewN ?_ _ | refine blk_drew ?_ | refine blk_alloc ?_ _)); exact BK6.out)) hb); have m2_ := Aside0.mk (blk_below (g := gb8) (o := .cells #[.slice Ao26 t9.length co26] 31 (0, 0)) (by ((with_reducible repeat (first | refine blk_drewN ?_ _ | refine blk_drew ?_ | refine blk_alloc ?_ _)); refine blk_far ?_ (by show gb8 ≠ gb10; have h1_ := HI8.out; have h2_ := HI10.out; have q1_ := HN1.out; have q2_ := HN2.out; have q3_ := HN3.out; have q4_ := HN4.out; have q5_ := HN5.out; have q6_ := HN6.out; have q7_ := HN7.out; have q8_ := HN8.out; have q9_ := HN9.out; have q10_ := HN10.out; have q11_ := HN11.out; have q12_ := HN12.out; omega) _; (with_reducible repeat (first | refine blk_drewN ?_ _ | refine blk_drew ?_ | refine blk_alloc ?_ _)); exact BK8.out)) hb); have m3_ := Aside0.mk (blk_below (g := gb10) (o := .cells #[.slice Ao34 g16.length co34] 31 (0, 0)) (by ((with_reducible repeat (first | refine blk_drewN ?_ _ | refine blk_drew ?_ | refine blk_alloc ?_ _)); refine blk_put (cs := #[.slice none 0 0]) ?_ 0 _ rfl; (with_reducible repeat (first | refine blk_drewN ?_ _ | refine blk_drew ?_ | refine blk_alloc ?_ _)); exact BK10.out)) hb); have m4_ := Aside0.mk (Kd.S_below (by ((with_reducible repeat (first | apply Kd.S_alloc | apply Kd.S_drewN | apply Kd.S_drew)); exact Kd.S_far (p := ⟨gb10, 0, none⟩) HO11.out (fun k_ hk_ => by show k_ ≠ gb10; have h2_ := HI10.out; have h3_ : n3 ≤ k_ ∧ k_ < n4 := hk_; clear hk_; have q1_ := HN1.out; have q2_ := HN2.out; have q3_ := HN3.out; have q4_ := HN4.out; have q5_ := HN5.out; have q6_ := HN6.out; have q7_ := HN7.out; have q8_ := HN8.out; have q9_ := HN9.out; have q10_ := HN10.out; have q11_ := HN11.out; have q12_ := HN12.out; omega) _)) hb); have m5_ := Aside0.mk (Kd.R_below (by ((with_reducible repeat (first | apply Kd.R_alloc | apply Kd.R_drewN | apply Kd.R_drew)); exact Kd.R_far (p := ⟨gb10, 0, none⟩) HO15.out (fun k_ hk_ => by show k_ ≠ gb10; have h2_ := HI10.out; have h3_ : n4 ≤ k_ ∧ k_ < n5 := hk_; clear hk_; have q1_ := HN1.out; have q2_ := HN2.out; have q3_ := HN3.out; have q4_ := HN4.out; have q5_ := HN5.out; have q6_ := HN6.out; have q7_ := HN7.out; have q8_ := HN8.out; have q9_ := HN9.out; have q10_ := HN10.out; have q11_ := HN11.out; have q12_ := HN12.out; omega) _)) hb); have m6_ := Aside0.mk (Kd.S_below (by ((with_reducible repeat (first | apply Kd.S_alloc | apply Kd.S_drewN | apply Kd.S_drew)); exact Kd.S_far (p := ⟨gb10, 0, none⟩) HO20.out (fun k_ hk_ => by show k_ ≠ gb10; have h2_ := HI10.out; have h3_ : n5 ≤ k_ ∧ k_ < n6 := hk_; clear hk_; have q1_ := HN1.out; have q2_ := HN2.out; have q3_ := HN3.out; have q4_ := HN4.out; have q5_ := HN5.out; have q6_ := HN6.out; have q7_ := HN7.out; have q8_ := HN8.out; have q9_ := HN9.out; have q10_ := HN10.out; have q11_ := HN11.out; have q12_ := HN12.out; omega) _)) hb); have m7_ := Aside0.mk (Kd.S_below (by ((with_reducible repeat (first | apply Kd.S_alloc | apply Kd.S_drewN | apply Kd.S_drew)); exact Kd.S_far (p := ⟨gb10, 0, none⟩) HO26.out (fun k_ hk_ => by show k_ ≠ gb10; have h2_ := HI10.out; have h3_ : n7 ≤ k_ ∧ k_ < n8 := hk_; clear hk_; have q1_ := HN1.out; have q2_ := HN2.out; have q3_ := HN3.out; have q4_ := HN4.out; have q5_ := HN5.out; have q6_ := HN6.out; have q7_ := HN7.out; have q8_ := HN8.out; have q9_ := HN9.out; have q10_ := HN10.out; have q11_ := HN11.out; have q12_ := HN12.out; omega) _)) hb); have m8_ := Aside0.mk (Kd.R_below (by ((with_reducible repeat (first | apply Kd.R_alloc | apply Kd.R_drewN | apply Kd.R_drew)); exact Kd.R_far (p := ⟨gb10, 0, none⟩) HO31.out (fun k_ hk_ => by show k_ ≠ gb10; have h2_ := HI10.out; have h3_ : n9 ≤ k_ ∧ k_ < n10 := hk_; clear hk_; have q1_ := HN1.out; have q2_ := HN2.out; have q3_ := HN3.out; have q4_ := HN4.out; have q5_ := HN5.out; have q6_ := HN6.out; have q7_ := HN7.out; have q8_ := HN8.out; have q9_ := HN9.out; have q10_ := HN10.out; have q11_ := HN11.out; have q12_ := HN12.out; omega) _)) hb); have m9_ := Aside0.mk (Kd.S_below (by ((with_reducible repeat (first | apply Kd.S_alloc | apply Kd.S_drewN | apply Kd.S_drew)); exact Kd.S_far (p := ⟨gb10, 0, none⟩) HO34.out (fun k_ hk_ => by show k_ ≠ gb10; have h2_ := HI10.out; have h3_ : n10 ≤ k_ ∧ k_ < n11 := hk_; clear hk_; have q1_ := HN1.out; have q2_ := HN2.out; have q3_ := HN3.out; have q4_ := HN4.out; have q5_ := HN5.out; have q6_ := HN6.out; have q7_ := HN7.out; have q8_ := HN8.out; have q9_ := HN9.out; have q10_ := HN10.out; have q11_ := HN11.out; have q12_ := HN12.out; omega) _)) hb); have mB_ := Aside0.mk (below_step (by (repeat (first | (with_reducible first | exact HB.out | apply below_alloc | apply pw_below_drewN | apply below_drew1 | refine below_set ?_ GE2.out | refine below_set ?_ GE6.out | refine below_set ?_ GE8.out | refine below_set ?_ GE10.out) | exact HB.out))) hb); have mL_ := Aside0.mk (sz_set (p := ⟨gb10, 0, none⟩) (v := .slice Ao34 g16.length co34) HZ.out); obtain ⟨n13, hn_⟩ : ∃ n_, n_ = w1046.heap.size := ⟨_, rfl⟩; have mN_ := Aside0.mk (by rw [hn_]; exact Nat.le_trans mL_.out hb.size : n12 ≤ n13); have mZ_ := Aside0.mk (Nat.le_of_eq hn_ : n13 ≤ w1046.heap.size); clear BK2 BK6 BK8 BK10 HO11 HO15 HO20 HO26 HO31 HO34 HB HZ; have BK2 := m0_; have BK6 := m1_; have BK8 := m2_; have BK10 := m3_; have HO11 := m4_; have HO15 := m5_; have HO20 := m6_; have HO26 := m7_; have HO31 := m8_; have HO34 := m9_; have HB := mB_; have HZ := mZ_; have HN13 := mN_; clear m0_ m1_ m2_ m3_ m4_ m5_ m6_ m7_ m8_ m9_ mB_ mN_ mZ_ mL_; (try clear hn_); clear hb))
  try go_wp2
  have m0_ := Aside0.mk (show (World.drew w1046).heap[gb2]? = some (Obj.cells #[.slice A0_0 l0_0.length c0_0] 24 (0, 0)) from blk_drew (by ((with_reducible repeat (first | refine blk_drewN ?_ _ | refine blk_drew ?_ | refine blk_alloc ?_ _)); exact BK2.out)))
  have m1_ := Aside0.mk (show (World.drew w1046).heap[gb6]? = some (Obj.cells #[.slice Ao20 s18.length co20] 31 (0, 0)) from blk_drew (by ((with_reducible repeat (first | refine blk_drewN ?_ _ | refine blk_drew ?_ | refine blk_alloc ?_ _)); exact BK6.out)))
  have m2_ := Aside0.mk (show (World.drew w1046).heap[gb8]? = some (Obj.cells #[.slice Ao26 t9.length co26] 31 (0, 0)) from blk_drew (by ((with_reducible repeat (first | refine blk_drewN ?_ _ | refine blk_drew ?_ | refine blk_alloc ?_ _)); exact BK8.out)))
  have m3_ := Aside0.mk (show (World.drew w1046).heap[gb10]? = some (Obj.cells #[.slice Ao34 g16.length co34] 31 (0, 0)) from blk_drew (by ((with_reducible repeat (first | refine blk_drewN ?_ _ | refine blk_drew ?_ | refine blk_alloc ?_ _)); exact BK10.out)))
  have m4_ := Aside0.mk (show Kd.S (Kd.slice 5 (Kd.int .u8)) 28 w1046.drew w.heap.size (fun k_ => n3 ≤ k_ ∧ k_ < n4) (.slice Ao11 t9.length co11) t9 from Kd.S_drew (by ((with_reducible repeat (first | apply Kd.S_alloc | apply Kd.S_drewN | apply Kd.S_drew)); exact HO11.out)))
  have m5_ := Aside0.mk (show Kd.R k33 33 w1046.drew w.heap.size (fun k_ => n4 ≤ k_ ∧ k_ < n5) (.slice Ao15 t13.length co15) t13 from Kd.R_drew (by ((with_reducible repeat (first | apply Kd.R_alloc | apply Kd.R_drewN | apply Kd.R_drew)); exact HO15.out)))
  have m6_ := Aside0.mk (show Kd.S (Kd.slice 5 (Kd.int .u8)) 28 w1046.drew w.heap.size (fun k_ => n5 ≤ k_ ∧ k_ < n6) (.slice Ao20 s18.length co20) s18 from Kd.S_drew (by ((with_reducible repeat (first | apply Kd.S_alloc | apply Kd.S_drewN | apply Kd.S_drew)); exact HO20.out)))
  have m7_ := Aside0.mk (show Kd.S (Kd.slice 5 (Kd.int .u8)) 28 w1046.drew w.heap.size (fun k_ => n7 ≤ k_ ∧ k_ < n8) (.slice Ao26 t9.length co26) t9 from Kd.S_drew (by ((with_reducible repeat (first | apply Kd.S_alloc | apply Kd.S_drewN | apply Kd.S_drew)); exact HO26.out)))
  have m8_ := Aside0.mk (show Kd.R k33 33 w1046.drew w.heap.size (fun k_ => n9 ≤ k_ ∧ k_ < n10) (.slice Ao31 t13.length co31) t13 from Kd.R_drew (by ((with_reducible repeat (first | apply Kd.R_alloc | apply Kd.R_drewN | apply Kd.R_drew)); exact HO31.out)))
  have m9_ := Aside0.mk (show Kd.S (Kd.slice 5 (Kd.int .u8)) 28 w1046.drew w.heap.size (fun k_ => n10 ≤ k_ ∧ k_ < n11) (.slice Ao34 g16.length co34) g16 from Kd.S_drew (by ((with_reducible repeat (first | apply Kd.S_alloc | apply Kd.S_drewN | apply Kd.S_drew)); exact HO34.out)))
  have m10_ := Aside0.mk (show Below w.heap.size w w1046.drew from below_drew1 (by (repeat (first | (with_reducible first | exact HB.out | apply below_alloc | apply pw_below_drewN | apply below_drew1 | refine below_set ?_ GE2.out | refine below_set ?_ GE6.out | refine below_set ?_ GE8.out | refine below_set ?_ GE10.out) | exact HB.out))))
  have m11_ := Aside0.mk (show n13 ≤ w1046.drew.heap.size from sz_drew (by (repeat (first | exact HZ.out | (with_reducible first | apply sz_alloc | apply sz_drewN | apply sz_drew | apply sz_set)))))
  clear BK2 BK6 BK8 BK10 HO11 HO15 HO20 HO26 HO31 HO34 HB HZ
  have BK2 := m0_
  have BK6 := m1_
  have BK8 := m2_
  have BK10 := m3_
  have HO11 := m4_
  have HO15 := m5_
  have HO20 := m6_
  have HO26 := m7_
  have HO31 := m8_
  have HO34 := m9_
  have HB := m10_
  have HZ := m11_
  clear m0_ m1_ m2_ m3_ m4_ m5_ m6_ m7_ m8_ m9_ m10_ m11_
  refine start_ (n := 5) (S := fun w' => w'.cell? ⟨gb8, 0, none⟩ = some (.slice Ao26 t9.length co26) ∧ w'.cell? ⟨gb2, 0, none⟩ = some (.slice A0_0 l0_0.length c0_0)) (ds := []) #[false, false, false, false, false] (by kernel_rfl) rfl rfl ⟨(blk_cell BK8.out 0).trans rfl, (blk_cell BK2.out 0).trans rfl⟩ (fun hHeld => ?_)
  generalize w1046.drew = w2039 at BK2 BK6 BK8 BK10 HO11 HO15 HO20 HO26 HO31 HO34 HB HZ hHeld ⊢
  refine take_ (i := 0) (N := some 54) (v := ?_) (a' := ?_) #[true, false, false, false, false] rfl rfl (by kernel_rfl) (fun _ _ _ h => h) (Or.inl ⟨by rfl, ?_⟩) hHeld ?_ ?_
  rotate_left
  · rintro w' ⟨s0_, s1_⟩
    go_simp
    with_reducible rfl
  rotate_left
  · simp only [Act.put, List.setIfInBounds_toArray, List.set_cons_zero, List.set_cons_succ, i64_w, i32_w]
    rfl
  refine take_ (i := 1) (N := some 55) (v := ?_) (a' := ?_) #[true, true, false, false, false] rfl rfl (by kernel_rfl) (fun _ _ _ h => h) (Or.inl ⟨by rfl, ?_⟩) hHeld ?_ ?_
  rotate_left
  · rintro w' ⟨s0_, s1_⟩
    go_simp
    with_reducible rfl
  rotate_left
  · simp only [Act.put, List.setIfInBounds_toArray, List.set_cons_zero, List.set_cons_succ, i64_w, i32_w]
    rfl
  refine one_ (i := 2) (N := some 56) #[true, true, true, false, false] rfl rfl (by kernel_rfl) (by decide) (fun K hK => ?_)
  refine goes_ Try.func14 (by kernel_rfl) rfl #[.agg #[.slice A0_0 l0_0.length c0_0]] (by rfl) rfl rfl (by (try simp only [List.map_toArray, List.map_cons, List.map_nil]); first | done | rfl | (simp only [List.length_drop, List.length_take]; rfl)) ?_
  (with_reducible refine (laws_toMemory.calls k _ _ l0_0 t9 _ ?sr0 ?sc0 E3.out).mono ?_)
  (case sr0 => exact Kd.C_below HR0_0.out (by (repeat (first | (with_reducible first | exact HB.out | apply below_alloc | apply pw_below_drewN | apply below_drew1 | refine below_set ?_ GE2.out | refine below_set ?_ GE6.out | refine below_set ?_ GE8.out | refine below_set ?_ GE10.out) | exact HB.out))))
  (case sc0 => exact HC0_0.out)
  rintro e w1050 ⟨v10_0, rfl, ho0_, hb⟩
  refine ⟨_, rfl, ?_⟩
  have m0_ := Aside0.mk (blk_below (g := gb2) (o := .cells #[.slice A0_0 l0_0.length c0_0] 24 (0, 0)) (by ((with_reducible repeat (first | refine blk_drewN ?_ _ | refine blk_drew ?_ | refine blk_alloc ?_ _)); exact BK2.out)) hb)
  have m1_ := Aside0.mk (blk_below (g := gb6) (o := .cells #[.slice Ao20 s18.length co20] 31 (0, 0)) (by ((with_reducible repeat (first | refine blk_drewN ?_ _ | refine blk_drew ?_ | refine blk_alloc ?_ _)); exact BK6.out)) hb)
  have m2_ := Aside0.mk (blk_below (g := gb8) (o := .cells #[.slice Ao26 t9.length co26] 31 (0, 0)) (by ((with_reducible repeat (first | refine blk_drewN ?_ _ | refine blk_drew ?_ | refine blk_alloc ?_ _)); exact BK8.out)) hb)
  have m3_ := Aside0.mk (blk_below (g := gb10) (o := .cells #[.slice Ao34 g16.length co34] 31 (0, 0)) (by ((with_reducible repeat (first | refine blk_drewN ?_ _ | refine blk_drew ?_ | refine blk_alloc ?_ _)); exact BK10.out)) hb)
  have m4_ := Aside0.mk (Kd.S_below (by ((with_reducible repeat (first | apply Kd.S_alloc | apply Kd.S_drewN | apply Kd.S_drew)); exact HO11.out)) hb)
  have m5_ := Aside0.mk (Kd.R_below (by ((with_reducible repeat (first | apply Kd.R_alloc | apply Kd.R_drewN | apply Kd.R_drew)); exact HO15.out)) hb)
  have m6_ := Aside0.mk (Kd.S_below (by ((with_reducible repeat (first | apply Kd.S_alloc | apply Kd.S_drewN | apply Kd.S_drew)); exact HO20.out)) hb)
  have m7_ := Aside0.mk (Kd.S_below (by ((with_reducible repeat (first | apply Kd.S_alloc | apply Kd.S_drewN | apply Kd.S_drew)); exact HO26.out)) hb)
  have m8_ := Aside0.mk (Kd.R_below (by ((with_reducible repeat (first | apply Kd.R_alloc | apply Kd.R_drewN | apply Kd.R_drew)); exact HO31.out)) hb)
  have m9_ := Aside0.mk (Kd.S_below (by ((with_reducible repeat (first | apply Kd.S_alloc | apply Kd.S_drewN | apply Kd.S_drew)); exact HO34.out)) hb)
  have mB_ := Aside0.mk (below_step (by (repeat (first | (with_reducible first | exact HB.out | apply below_alloc | apply pw_below_drewN | apply below_drew1 | refine below_set ?_ GE2.out | refine below_set ?_ GE6.out | refine below_set ?_ GE8.out | refine below_set ?_ GE10.out) | exact HB.out))) hb)
  have mL_ := Aside0.mk (by (repeat (first | exact HZ.out | (with_reducible first | apply sz_alloc | apply sz_drewN | apply sz_drew | apply sz_set))) : n13 ≤ _)
  obtain ⟨n14, hn_⟩ : ∃ n_, n_ = w1050.heap.size := ⟨_, rfl⟩
  have mN_ := Aside0.mk (by rw [hn_]; exact Nat.le_trans mL_.out hb.size : n13 ≤ n14)
  have mZ_ := Aside0.mk (Nat.le_of_eq hn_ : n14 ≤ w1050.heap.size)
  have xHO42_ := Aside0.mk (show Kd.S (Kd.slice 5 (Kd.int .u8)) 28 w1050 w.heap.size (fun k_ => n13 ≤ k_ ∧ k_ < n14) _ t9 from Kd.S_mono (Kd.S_lower (Kd.S_bound ho0_) (below_size (by (repeat (first | (with_reducible first | exact HB.out | apply below_alloc | apply pw_below_drewN | apply below_drew1 | refine below_set ?_ GE2.out | refine below_set ?_ GE6.out | refine below_set ?_ GE8.out | refine below_set ?_ GE10.out) | exact HB.out))))) (fun k_ hk_ => ⟨Nat.le_trans mL_.out hk_.2.1, by rw [hn_]; exact hk_.2.2.1⟩))
  clear BK2 BK6 BK8 BK10 HO11 HO15 HO20 HO26 HO31 HO34 HB HZ
  have BK2 := m0_
  have BK6 := m1_
  have BK8 := m2_
  have BK10 := m3_
  have HO11 := m4_
  have HO15 := m5_
  have HO20 := m6_
  have HO26 := m7_
  have HO31 := m8_
  have HO34 := m9_
  have HB := mB_
  have HZ := mZ_
  have HN14 := mN_
  have HO42 := xHO42_
  clear m0_ m1_ m2_ m3_ m4_ m5_ m6_ m7_ m8_ m9_ mB_ mN_ mZ_ mL_ xHO42_
  (try clear hn_)
  clear hb ho0_
  obtain ⟨Ao42, co42, eo_⟩ := Kd.S_slice HO42.out; subst eo_
  refine hK.out _ _ ⟨(blk_cell BK8.out 0).trans rfl, (blk_cell BK2.out 0).trans rfl⟩ (fun hHeld => ?_)
  clear hK K
  refine norm_ (a' := ?_) ?_ ?_
  rotate_left
  · show Act.put _ (some 56) _ = _
    simp only [Act.put, List.setIfInBounds_toArray, List.set_cons_zero, List.set_cons_succ, i64_w, i32_w]
    rfl
  refine one_ (i := 3) (N := some 57) #[true, true, true, true, false] rfl rfl (by kernel_rfl) (by decide) (fun K hK => ?_)
  refine goes_ Try.func18 (by kernel_rfl) rfl #[.agg #[.slice Ao26 t9.length co26], .agg #[.slice Ao42 t9.length co42]] (by rfl) rfl rfl (by (try simp only [List.map_toArray, List.map_cons, List.map_nil]); first | done | rfl | (simp only [List.length_drop, List.length_take]; rfl)) ?_
  (with_reducible refine (laws_eqMemory.calls k _ _ t9 _ _ t9 true _ ?sr0 ?sc0 ?sr1 ?sc1 E11.out).mono ?_)
  (case sr0 => repeat (first | exact (Kd.S_reads' HO26.out).2.2 | (with_reducible refine Kd.C_alloc ?_ _) | (with_reducible refine Kd.C_drewN ?_ _) | (with_reducible refine Kd.C_drew ?_)))
  (case sc0 => first | exact (Kd.S_reads' HO26.out).2.1 | exact Nat.le_trans (Nat.le_of_eq (Kd.S_reads' HO26.out).1.symm) (Kd.S_reads' HO26.out).2.1)
  (case sr1 => repeat (first | exact (Kd.S_reads' HO42.out).2.2 | (with_reducible refine Kd.C_alloc ?_ _) | (with_reducible refine Kd.C_drewN ?_ _) | (with_reducible refine Kd.C_drew ?_)))
  (case sc1 => first | exact (Kd.S_reads' HO42.out).2.1 | exact Nat.le_trans (Nat.le_of_eq (Kd.S_reads' HO42.out).1.symm) (Kd.S_reads' HO42.out).2.1)
  rintro e w1053 ⟨rfl, hb⟩
  refine ⟨_, rfl, ?_⟩
  have m0_ := Aside0.mk (blk_below (g := gb2) (o := .cells #[.slice A0_0 l0_0.length c0_0] 24 (0, 0)) (by ((with_reducible repeat (first | refine blk_drewN ?_ _ | refine blk_drew ?_ | refine blk_alloc ?_ _)); exact BK2.out)) hb)
  have m1_ := Aside0.mk (blk_below (g := gb6) (o := .cells #[.slice Ao20 s18.length co20] 31 (0, 0)) (by ((with_reducible repeat (first | refine blk_drewN ?_ _ | refine blk_drew ?_ | refine blk_alloc ?_ _)); exact BK6.out)) hb)
  have m2_ := Aside0.mk (blk_below (g := gb8) (o := .cells #[.slice Ao26 t9.length co26] 31 (0, 0)) (by ((with_reducible repeat (first | refine blk_drewN ?_ _ | refine blk_drew ?_ | refine blk_alloc ?_ _)); exact BK8.out)) hb)
  have m3_ := Aside0.mk (blk_below (g := gb10) (o := .cells #[.slice Ao34 g16.length co34] 31 (0, 0)) (by ((with_reducible repeat (first | refine blk_drewN ?_ _ | refine blk_drew ?_ | refine blk_alloc ?_ _)); exact BK10.out)) hb)
  have m4_ := Aside0.mk (Kd.S_below (by ((with_reducible repeat (first | apply Kd.S_alloc | apply Kd.S_drewN | apply Kd.S_drew)); exact HO11.out)) hb)
  have m5_ := Aside0.mk (Kd.R_below (by ((with_reducible repeat (first | apply Kd.R_alloc | apply Kd.R_drewN | apply Kd.R_drew)); exact HO15.out)) hb)
  have m6_ := Aside0.mk (Kd.S_below (by ((with_reducible repeat (first | apply Kd.S_alloc | apply Kd.S_drewN | apply Kd.S_drew)); exact HO20.out)) hb)
  have m7_ := Aside0.mk (Kd.S_below (by ((with_reducible repeat (first | apply Kd.S_alloc | apply Kd.S_drewN | apply Kd.S_drew)); exact HO26.out)) hb)
  have m8_ := Aside0.mk (Kd.R_below (by ((with_reducible repeat (first | apply Kd.R_alloc | apply Kd.R_drewN | apply Kd.R_drew)); exact HO31.out)) hb)
  have m9_ := Aside0.mk (Kd.S_below (by ((with_reducible repeat (first | apply Kd.S_alloc | apply Kd.S_drewN | apply Kd.S_drew)); exact HO34.out)) hb)
  have m10_ := Aside0.mk (Kd.S_below (by ((with_reducible repeat (first | apply Kd.S_alloc | apply Kd.S_drewN | apply Kd.S_drew)); exact HO42.out)) hb)
  have mB_ := Aside0.mk (below_step (by (repeat (first | (with_reducible first | exact HB.out | apply below_alloc | apply pw_below_drewN | apply below_drew1 | refine below_set ?_ GE2.out | refine below_set ?_ GE6.out | refine below_set ?_ GE8.out | refine below_set ?_ GE10.out) | exact HB.out))) hb)
  have mL_ := Aside0.mk (by (repeat (first | exact HZ.out | (with_reducible first | apply sz_alloc | apply sz_drewN | apply sz_drew | apply sz_set))) : n14 ≤ _)
  obtain ⟨n15, hn_⟩ : ∃ n_, n_ = w1053.heap.size := ⟨_, rfl⟩
  have mN_ := Aside0.mk (by rw [hn_]; exact Nat.le_trans mL_.out hb.size : n14 ≤ n15)
  have mZ_ := Aside0.mk (Nat.le_of_eq hn_ : n15 ≤ w1053.heap.size)
  clear BK2 BK6 BK8 BK10 HO11 HO15 HO20 HO26 HO31 HO34 HO42 HB HZ
  have BK2 := m0_
  have BK6 := m1_
  have BK8 := m2_
  have BK10 := m3_
  have HO11 := m4_
  have HO15 := m5_
  have HO20 := m6_
  have HO26 := m7_
  have HO31 := m8_
  have HO34 := m9_
  have HO42 := m10_
  have HB := mB_
  have HZ := mZ_
  have HN15 := mN_
  clear m0_ m1_ m2_ m3_ m4_ m5_ m6_ m7_ m8_ m9_ m10_ mB_ mN_ mZ_ mL_
  (try clear hn_)
  clear hb
  refine hK.out _ _ ⟨(blk_cell BK8.out 0).trans rfl, (blk_cell BK2.out 0).trans rfl⟩ (fun hHeld => ?_)
  clear hK K
  refine norm_ (a' := ?_) ?_ ?_
  rotate_left
  · show Act.put _ (some 57) _ = _
    simp only [Act.put, List.setIfInBounds_toArray, List.set_cons_zero, List.set_cons_succ, i64_w, i32_w]
    rfl
  refine pure_ (i := 4) (N := some 58) (v := ?_) (a' := ?_) #[true, true, true, true, true] rfl rfl (by kernel_rfl) (fun _ _ _ h => h) (Or.inl ⟨by rfl, ?_⟩) ?_ ?_
  rotate_left
  · intro w'
    go_simp
    with_reducible rfl
  rotate_left
  · simp only [Act.put, List.setIfInBounds_toArray, List.set_cons_zero, List.set_cons_succ, i64_w, i32_w]
    rfl
  refine done_ (by kernel_rfl) ?_
  go_wp2_with (first | ((with_reducible refine gate_callee (f := 24) rfl ?_); refine goesL_ (some 61) rfl rfl Try.func24 (by kernel_rfl) rfl #[.slice A1 l1.length c1] rfl (by (try simp only [List.map_toArray, List.map_cons, List.map_nil]); first | done | rfl) ?_; (with_reducible refine (laws_toWindowS.calls k _ _ l1 t13 _ ?sr0 ?sc0 E4.out).mono ?_); (case sr0 => exact Kd.C_below HR1.out (by (repeat (first | (with_reducible first | exact HB.out | apply below_alloc | apply pw_below_drewN | apply below_drew1 | refine below_set ?_ GE2.out | refine below_set ?_ GE6.out | refine below_set ?_ GE8.out | refine below_set ?_ GE10.out) | exact HB.out)))); (case sc0 => exact HC1.out); rintro e w1056 ⟨v12_0, rfl, ho0_, hb⟩; refine ⟨_, rfl, ?_⟩; have m0_ := Aside0.mk (blk_below (g := gb2) (o := .cells #[.slice A0_0 l0_0.length c0_0] 24 (0, 0)) (by ((with_reducible repeat (first | refine blk_drewN ?_ _ | refine blk_drew ?_ | refine blk_alloc ?_ _)); exact BK2.out)) hb); have m1_ := Aside0.mk (blk_below (g := gb6) (o := .cells #[.slice Ao20 s18.length co20] 31 (0, 0)) (by ((with_reducible repeat (first | refine blk_drewN ?_ _ | refine blk_drew ?_ | refine blk_alloc ?_ _)); exact BK6.out)) hb); have m2_ := Aside0.mk (blk_below (g := gb8) (o := .cells #[.slice Ao26 t9.length co26] 31 (0, 0)) (by ((with_reducible repeat (first | refine blk_drewN ?_ _ | refine blk_drew ?_ | refine blk_alloc ?_ _)); exact BK8.out)) hb); have m3_ := Aside0.mk (blk_below (g := gb10) (o := .cells #[.slice Ao34 g16.length co34] 31 (0, 0)) (by ((with_reducible repeat (first | refine blk_drewN ?_ _ | refine blk_drew ?_ | refine blk_alloc ?_ _)); exact BK10.out)) hb); have m4_ := Aside0.mk (Kd.S_below (by ((with_reducible repeat (first | apply Kd.S_alloc | apply Kd.S_drewN | apply Kd.S_drew)); exact HO11.out)) hb); have m5_ := Aside0.mk (Kd.R_below (by ((with_reducible repeat (first | apply Kd.R_alloc | apply Kd.R_drewN | apply Kd.R_drew)); exact HO15.out)) hb); have m6_ := Aside0.mk (Kd.S_below (by ((with_reducible repeat (first | apply Kd.S_alloc | apply Kd.S_drewN | apply Kd.S_drew)); exact HO20.out)) hb); have m7_ := Aside0.mk (Kd.S_below (by ((with_reducible repeat (first | apply Kd.S_alloc | apply Kd.S_drewN | apply Kd.S_drew)); exact HO26.out)) hb); have m8_ := Aside0.mk (Kd.R_below (by ((with_reducible repeat (first | apply Kd.R_alloc | apply Kd.R_drewN | apply Kd.R_drew)); exact HO31.out)) hb); have m9_ := Aside0.mk (Kd.S_below (by ((with_reducible repeat (first | apply Kd.S_alloc | apply Kd.S_drewN | apply Kd.S_drew)); exact HO34.out)) hb); have m10_ := Aside0.mk (Kd.S_below (by ((with_reducible repeat (first | apply Kd.S_alloc | apply Kd.S_drewN | apply Kd.S_drew)); exact HO42.out)) hb); have mB_ := Aside0.mk (below_step (by (repeat (first | (with_reducible first | exact HB.out | apply below_alloc | apply pw_below_drewN | apply below_drew1 | refine below_set ?_ GE2.out | refine below_set ?_ GE6.out | refine below_set ?_ GE8.out | refine below_set ?_ GE10.out) | exact HB.out))) hb); have mL_ := Aside0.mk (by (repeat (first | exact HZ.out | (with_reducible first | apply sz_alloc | apply sz_drewN | apply sz_drew | apply sz_set))) : n15 ≤ _); obtain ⟨n16, hn_⟩ : ∃ n_, n_ = w1056.heap.size := ⟨_, rfl⟩; have mN_ := Aside0.mk (by rw [hn_]; exact Nat.le_trans mL_.out hb.size : n15 ≤ n16); have mZ_ := Aside0.mk (Nat.le_of_eq hn_ : n16 ≤ w1056.heap.size); have xHO46_ := Aside0.mk (show Kd.R k33 33 w1056 w.heap.size (fun k_ => n15 ≤ k_ ∧ k_ < n16) _ t13 from Kd.R_mono (Kd.R_lower (Kd.R_bound ho0_) (below_size (by (repeat (first | (with_reducible first | exact HB.out | apply below_alloc | apply pw_below_drewN | apply below_drew1 | refine below_set ?_ GE2.out | refine below_set ?_ GE6.out | refine below_set ?_ GE8.out | refine below_set ?_ GE10.out) | exact HB.out))))) (fun k_ hk_ => ⟨Nat.le_trans mL_.out hk_.2.1, by rw [hn_]; exact hk_.2.2.1⟩)); clear BK2 BK6 BK8 BK10 HO11 HO15 HO20 HO26 HO31 HO34 HO42 HB HZ; have BK2 := m0_; have BK6 := m1_; have BK8 := m2_; have BK10 := m3_; have HO11 := m4_; have HO15 := m5_; have HO20 := m6_; have HO26 := m7_; have HO31 := m8_; have HO34 := m9_; have HO42 := m10_; have HB := mB_; have HZ := mZ_; have HN16 := mN_; have HO46 := xHO46_; clear m0_ m1_ m2_ m3_ m4_ m5_ m6_ m7_ m8_ m9_ m10_ mB_ mN_ mZ_ mL_ xHO46_; (try clear hn_); clear hb ho0_; obtain ⟨Ao46, co46, eo_⟩ := Kd.R_slice HO46.out; subst eo_) | ((with_reducible refine gate_callee (f := 26) rfl ?_); refine goesL_ (some 62) rfl rfl Try.func26 (by kernel_rfl) rfl #[.slice Ao31 t13.length co31, .slice Ao46 t13.length co46] rfl (by (try simp only [List.map_toArray, List.map_cons, List.map_nil]); first | done | rfl) ?_; (with_reducible refine (laws_eqWindowS.calls k _ _ t13 _ _ t13 true _ ?sr0 ?sc0 ?sr1 ?sc1 E13.out).mono ?_); (case sr0 => repeat (first | exact (Kd.R_reads' HO31.out).2.2 | (with_reducible refine Kd.C_alloc ?_ _) | (with_reducible refine Kd.C_drewN ?_ _) | (with_reducible refine Kd.C_drew ?_))); (case sc0 => first | exact (Kd.R_reads' HO31.out).2.1 | exact Nat.le_trans (Nat.le_of_eq (Kd.R_reads' HO31.out).1.symm) (Kd.R_reads' HO31.out).2.1); (case sr1 => repeat (first | exact (Kd.R_reads' HO46.out).2.2 | (with_reducible refine Kd.C_alloc ?_ _) | (with_reducible refine Kd.C_drewN ?_ _) | (with_reducible refine Kd.C_drew ?_))); (case sc1 => first | exact (Kd.R_reads' HO46.out).2.1 | exact Nat.le_trans (Nat.le_of_eq (Kd.R_reads' HO46.out).1.symm) (Kd.R_reads' HO46.out).2.1); rintro e w1059 ⟨rfl, hb⟩; refine ⟨_, rfl, ?_⟩; have m0_ := Aside0.mk (blk_below (g := gb2) (o := .cells #[.slice A0_0 l0_0.length c0_0] 24 (0, 0)) (by ((with_reducible repeat (first | refine blk_drewN ?_ _ | refine blk_drew ?_ | refine blk_alloc ?_ _)); exact BK2.out)) hb); have m1_ := Aside0.mk (blk_below (g := gb6) (o := .cells #[.slice Ao20 s18.length co20] 31 (0, 0)) (by ((with_reducible repeat (first | refine blk_drewN ?_ _ | refine blk_drew ?_ | refine blk_alloc ?_ _)); exact BK6.out)) hb); have m2_ := Aside0.mk (blk_below (g := gb8) (o := .cells #[.slice Ao26 t9.length co26] 31 (0, 0)) (by ((with_reducible repeat (first | refine blk_drewN ?_ _ | refine blk_drew ?_ | refine blk_alloc ?_ _)); exact BK8.out)) hb); have m3_ := Aside0.mk (blk_below (g := gb10) (o := .cells #[.slice Ao34 g16.length co34] 31 (0, 0)) (by ((with_reducible repeat (first | refine blk_drewN ?_ _ | refine blk_drew ?_ | refine blk_alloc ?_ _)); exact BK10.out)) hb); have m4_ := Aside0.mk (Kd.S_below (by ((with_reducible repeat (first | apply Kd.S_alloc | apply Kd.S_drewN | apply Kd.S_drew)); exact HO11.out)) hb); have m5_ := Aside0.mk (Kd.R_below (by ((with_reducible repeat (first | apply Kd.R_alloc | apply Kd.R_drewN | apply Kd.R_drew)); exact HO15.out)) hb); have m6_ := Aside0.mk (Kd.S_below (by ((with_reducible repeat (first | apply Kd.S_alloc | apply Kd.S_drewN | apply Kd.S_drew)); exact HO20.out)) hb); have m7_ := Aside0.mk (Kd.S_below (by ((with_reducible repeat (first | apply Kd.S_alloc | apply Kd.S_drewN | apply Kd.S_drew)); exact HO26.out)) hb); have m8_ := Aside0.mk (Kd.R_below (by ((with_reducible repeat (first | apply Kd.R_alloc | apply Kd.R_drewN | apply Kd.R_drew)); exact HO31.out)) hb); have m9_ := Aside0.mk (Kd.S_below (by ((with_reducible repeat (first | apply Kd.S_alloc | apply Kd.S_drewN | apply Kd.S_drew)); exact HO34.out)) hb); have m10_ := Aside0.mk (Kd.S_below (by ((with_reducible repeat (first | apply Kd.S_alloc | apply Kd.S_drewN | apply Kd.S_drew)); exact HO42.out)) hb); have m11_ := Aside0.mk (Kd.R_below (by ((with_reducible repeat (first | apply Kd.R_alloc | apply Kd.R_drewN | apply Kd.R_drew)); exact HO46.out)) hb); have mB_ := Aside0.mk (below_step (by (repeat (first | (with_reducible first | exact HB.out | apply below_alloc | apply pw_below_drewN | apply below_drew1 | refine below_set ?_ GE2.out | refine below_set ?_ GE6.out | refine below_set ?_ GE8.out | refine below_set ?_ GE10.out) | exact HB.out))) hb); have mL_ := Aside0.mk (by (repeat (first | exact HZ.out | (with_reducible first | apply sz_alloc | apply sz_drewN | apply sz_drew | apply sz_set))) : n16 ≤ _); obtain ⟨n17, hn_⟩ : ∃ n_, n_ = w1059.heap.size := ⟨_, rfl⟩; have mN_ := Aside0.mk (by rw [hn_]; exact Nat.le_trans mL_.out hb.size : n16 ≤ n17); have mZ_ := Aside0.mk (Nat.le_of_eq hn_ : n17 ≤ w1059.heap.size); clear BK2 BK6 BK8 BK10 HO11 HO15 HO20 HO26 HO31 HO34 HO42 HO46 HB HZ; have BK2 := m0_; have BK6 := m1_; have BK8 := m2_; have BK10 := m3_; have HO11 := m4_; have HO15 := m5_; have HO20 := m6_; have HO26 := m7_; have HO31 := m8_; have HO34 := m9_; have HO42 := m10_; have HO46 := m11_; have HB := mB_; have HZ := mZ_; have HN17 := mN_; clear m0_ m1_ m2_ m3_ m4_ m5_ m6_ m7_ m8_ m9_ m10_ m11_ mB_ mN_ mZ_ mL_; (try clear hn_); clear hb; have hc48_0 := (blk_cell BK8.out 0).trans (show (#[.slice Ao26 t9.length co26] : Array Value)[0]? = some (.slice Ao26 t9.length co26) from rfl); have hf48_0 := blk_frozen BK8.out 0) | ((with_reducible refine gate_callee (f := 19) rfl ?_); refine goesL_ (some 66) rfl rfl Try.func19 (by kernel_rfl) rfl #[.agg #[.slice Ao26 t9.length co26], .int .i64 1] rfl (by (try simp only [List.map_toArray, List.map_cons, List.map_nil]); first | done | rfl) ?_; (with_reducible refine (laws_markMemory.calls k (fun k_ => n7 ≤ k_ ∧ k_ < n8) _ t9 1 m49 y50 w _ ?sideB ?sideO E14.out).mono ?_); (case sideB => exact (by (repeat (first | (with_reducible first | exact HB.out | apply below_alloc | apply pw_below_drewN | apply below_drew1 | refine below_set ?_ GE2.out | refine below_set ?_ GE6.out | refine below_set ?_ GE8.out | refine below_set ?_ GE10.out) | exact HB.out)))); (case sideO => exact (by ((with_reducible repeat (first | apply Kd.S_alloc | apply Kd.S_drewN | apply Kd.S_drew)); exact HO26.out))); rintro e w1064 ⟨rfl, ho_, hb2_, hk⟩; refine ⟨_, rfl, ?_⟩; have m0_ := Aside0.mk (blk_kept (g := gb2) (o := .cells #[.slice A0_0 l0_0.length c0_0] 24 (0, 0)) (by ((with_reducible repeat (first | refine blk_drewN ?_ _ | refine blk_drew ?_ | refine blk_alloc ?_ _)); exact BK2.out)) hk (fun h_ => by have h1_ := HI2.out; have q1_ := HN1.out; have q2_ := HN2.out; have q3_ := HN3.out; have q4_ := HN4.out; have q5_ := HN5.out; have q6_ := HN6.out; have q7_ := HN7.out; have q8_ := HN8.out; have q9_ := HN9.out; have q10_ := HN10.out; have q11_ := HN11.out; have q12_ := HN12.out; have q13_ := HN13.out; have q14_ := HN14.out; have q15_ := HN15.out; have q16_ := HN16.out; have q17_ := HN17.out; omega)); have m1_ := Aside0.mk (blk_kept (g := gb6) (o := .cells #[.slice Ao20 s18.length co20] 31 (0, 0)) (by ((with_reducible repeat (first | refine blk_drewN ?_ _ | refine blk_drew ?_ | refine blk_alloc ?_ _)); exact BK6.out)) hk (fun h_ => by have h1_ := HI6.out; have q1_ := HN1.out; have q2_ := HN2.out; have q3_ := HN3.out; have q4_ := HN4.out; have q5_ := HN5.out; have q6_ := HN6.out; have q7_ := HN7.out; have q8_ := HN8.out; have q9_ := HN9.out; have q10_ := HN10.out; have q11_ := HN11.out; have q12_ := HN12.out; have q13_ := HN13.out; have q14_ := HN14.out; have q15_ := HN15.out; have q16_ := HN16.out; have q17_ := HN17.out; omega)); have m2_ := Aside0.mk (blk_kept (g := gb8) (o := .cells #[.slice Ao26 t9.length co26] 31 (0, 0)) (by ((with_reducible repeat (first | refine blk_drewN ?_ _ | refine blk_drew ?_ | refine blk_alloc ?_ _)); exact BK8.out)) hk (fun h_ => by have h1_ := HI8.out; have q1_ := HN1.out; have q2_ := HN2.out; have q3_ := HN3.out; have q4_ := HN4.out; have q5_ := HN5.out; have q6_ := HN6.out; have q7_ := HN7.out; have q8_ := HN8.out; have q9_ := HN9.out; have q10_ := HN10.out; have q11_ := HN11.out; have q12_ := HN12.out; have q13_ := HN13.out; have q14_ := HN14.out; have q15_ := HN15.out; have q16_ := HN16.out; have q17_ := HN17.out; omega)); have m3_ := Aside0.mk (blk_kept (g := gb10) (o := .cells #[.slice Ao34 g16.length co34] 31 (0, 0)) (by ((with_reducible repeat (first | refine blk_drewN ?_ _ | refine blk_drew ?_ | refine blk_alloc ?_ _)); exact BK10.out)) hk (fun h_ => by have h1_ := HI10.out; have q1_ := HN1.out; have q2_ := HN2.out; have q3_ := HN3.out; have q4_ := HN4.out; have q5_ := HN5.out; have q6_ := HN6.out; have q7_ := HN7.out; have q8_ := HN8.out; have q9_ := HN9.out; have q10_ := HN10.out; have q11_ := HN11.out; have q12_ := HN12.out; have q13_ := HN13.out; have q14_ := HN14.out; have q15_ := HN15.out; have q16_ := HN16.out; have q17_ := HN17.out; omega)); have m4_ := Aside0.mk (Kd.S_kept (by ((with_reducible repeat (first | apply Kd.S_alloc | apply Kd.S_drewN | apply Kd.S_drew)); exact HO11.out)) hk (fun k_ h1_ h2_ => by have q1_ := HN1.out; have q2_ := HN2.out; have q3_ := HN3.out; have q4_ := HN4.out; have q5_ := HN5.out; have q6_ := HN6.out; have q7_ := HN7.out; have q8_ := HN8.out; have q9_ := HN9.out; have q10_ := HN10.out; have q11_ := HN11.out; have q12_ := HN12.out; have q13_ := HN13.out; have q14_ := HN14.out; have q15_ := HN15.out; have q16_ := HN16.out; have q17_ := HN17.out; omega)); have m5_ := Aside0.mk (Kd.R_kept (by ((with_reducible repeat (first | apply Kd.R_alloc | apply Kd.R_drewN | apply Kd.R_drew)); exact HO15.out)) hk (fun k_ h1_ h2_ => by have q1_ := HN1.out; have q2_ := HN2.out; have q3_ := HN3.out; have q4_ := HN4.out; have q5_ := HN5.out; have q6_ := HN6.out; have q7_ := HN7.out; have q8_ := HN8.out; have q9_ := HN9.out; have q10_ := HN10.out; have q11_ := HN11.out; have q12_ := HN12.out; have q13_ := HN13.out; have q14_ := HN14.out; have q15_ := HN15.out; have q16_ := HN16.out; have q17_ := HN17.out; omega)); have m6_ := Aside0.mk (Kd.S_kept (by ((with_reducible repeat (first | apply Kd.S_alloc | apply Kd.S_drewN | apply Kd.S_drew)); exact HO20.out)) hk (fun k_ h1_ h2_ => by have q1_ := HN1.out; have q2_ := HN2.out; have q3_ := HN3.out; have q4_ := HN4.out; have q5_ := HN5.out; have q6_ := HN6.out; have q7_ := HN7.out; have q8_ := HN8.out; have q9_ := HN9.out; have q10_ := HN10.out; have q11_ := HN11.out; have q12_ := HN12.out; have q13_ := HN13.out; have q14_ := HN14.out; have q15_ := HN15.out; have q16_ := HN16.out; have q17_ := HN17.out; omega)); have m7_ := Aside0.mk (Kd.R_kept (by ((with_reducible repeat (first | apply Kd.R_alloc | apply Kd.R_drewN | apply Kd.R_drew)); exact HO31.out)) hk (fun k_ h1_ h2_ => by have q1_ := HN1.out; have q2_ := HN2.out; have q3_ := HN3.out; have q4_ := HN4.out; have q5_ := HN5.out; have q6_ := HN6.out; have q7_ := HN7.out; have q8_ := HN8.out; have q9_ := HN9.out; have q10_ := HN10.out; have q11_ := HN11.out; have q12_ := HN12.out; have q13_ := HN13.out; have q14_ := HN14.out; have q15_ := HN15.out; have q16_ := HN16.out; have q17_ := HN17.out; omega)); have m8_ := Aside0.mk (Kd.S_kept (by ((with_reducible repeat (first | apply Kd.S_alloc | apply Kd.S_drewN | apply Kd.S_drew)); exact HO34.out)) hk (fun k_ h1_ h2_ => by have q1_ := HN1.out; have q2_ := HN2.out; have q3_ := HN3.out; have q4_ := HN4.out; have q5_ := HN5.out; have q6_ := HN6.out; have q7_ := HN7.out; have q8_ := HN8.out; have q9_ := HN9.out; have q10_ := HN10.out; have q11_ := HN11.out; have q12_ := HN12.out; have q13_ := HN13.out; have q14_ := HN14.out; have q15_ := HN15.out; have q16_ := HN16.out; have q17_ := HN17.out; omega)); have m9_ := Aside0.mk (Kd.S_kept (by ((with_reducible repeat (first | apply Kd.S_alloc | apply Kd.S_drewN | apply Kd.S_drew)); exact HO42.out)) hk (fun k_ h1_ h2_ => by have q1_ := HN1.out; have q2_ := HN2.out; have q3_ := HN3.out; have q4_ := HN4.out; have q5_ := HN5.out; have q6_ := HN6.out; have q7_ := HN7.out; have q8_ := HN8.out; have q9_ := HN9.out; have q10_ := HN10.out; have q11_ := HN11.out; have q12_ := HN12.out; have q13_ := HN13.out; have q14_ := HN14.out; have q15_ := HN15.out; have q16_ := HN16.out; have q17_ := HN17.out; omega)); have m10_ := Aside0.mk (Kd.R_kept (by ((with_reducible repeat (first | apply Kd.R_alloc | apply Kd.R_drewN | apply Kd.R_drew)); exact HO46.out)) hk (fun k_ h1_ h2_ => by have q1_ := HN1.out; have q2_ := HN2.out; have q3_ := HN3.out; have q4_ := HN4.out; have q5_ := HN5.out; have q6_ := HN6.out; have q7_ := HN7.out; have q8_ := HN8.out; have q9_ := HN9.out; have q10_ := HN10.out; have q11_ := HN11.out; have q12_ := HN12.out; have q13_ := HN13.out; have q14_ := HN14.out; have q15_ := HN15.out; have q16_ := HN16.out; have q17_ := HN17.out; omega)); have mO_ := Aside0.mk (show Kd.S (Kd.slice 5 (Kd.int .u8)) 28 w1064 w.heap.size (fun k_ => n7 ≤ k_ ∧ k_ < n8) (.slice Ao26 t9.length co26) y50 from ho_); have mL_ := Aside0.mk (by (repeat (first | exact HZ.out | (with_reducible first | apply sz_alloc | apply sz_drewN | apply sz_drew | apply sz_set))) : n17 ≤ _); have mZ_ := Aside0.mk (Nat.le_trans mL_.out hk.1 : n17 ≤ w1064.heap.size); have mB_ := Aside0.mk hb2_; clear BK2 BK6 BK8 BK10 HO11 HO15 HO20 HO31 HO34 HO42 HO46 HB HZ HO26; have BK2 := m0_; have BK6 := m1_; have BK8 := m2_; have BK10 := m3_; have HO11 := m4_; have HO15 := m5_; have HO20 := m6_; have HO31 := m7_; have HO34 := m8_; have HO42 := m9_; have HO46 := m10_; have HO26 := mO_; have HB := mB_; have HZ := mZ_; clear m0_ m1_ m2_ m3_ m4_ m5_ m6_ m7_ m8_ m9_ m10_ mO_ mB_ mZ_ mL_; clear ho_ hb2_ hk) | ((with_reducible refine gate_callee (f := 30) rfl ?_); refine goesL_ (some 69) rfl rfl Try.func30 (by kernel_rfl) rfl #[.slice Ao31 t13.length co31, .int .i64 m49] rfl (by (try simp only [List.map_toArray, List.map_cons, List.map_nil]); first | done | rfl) ?_; (with_reducible refine (laws_markWindowS.calls k (fun k_ => n9 ≤ k_ ∧ k_ < n10) _ t13 m49 m52 y53 w _ ?sideB ?sideO E15.out).mono ?_); (case sideB => exact (by (repeat (first | (with_reducible first | exact HB.out | apply below_alloc | apply pw_below_drewN | apply below_drew1 | refine below_set ?_ GE2.out | refine below_set ?_ GE6.out | refine below_set ?_ GE8.out | refine below_set ?_ GE10.out) | exact HB.out)))); (case sideO => exact (by ((with_reducible repeat (first | apply Kd.R_alloc | apply Kd.R_drewN | apply Kd.R_drew)); exact HO31.out))); rintro e w1068 ⟨rfl, ho_, hb2_, hk⟩; refine ⟨_, rfl, ?_⟩; have m0_ := Aside0.mk (blk_kept (g := gb2) (o := .cells #[.slice A0_0 l0_0.length c0_0] 24 (0, 0)) (by ((with_reducible repeat (first | refine blk_drewN ?_ _ | refine blk_drew ?_ | refine blk_alloc ?_ _)); exact BK2.out)) hk (fun h_ => by have h1_ := HI2.out; have q1_ := HN1.out; have q2_ := HN2.out; have q3_ := HN3.out; have q4_ := HN4.out; have q5_ := HN5.out; have q6_ := HN6.out; have q7_ := HN7.out; have q8_ := HN8.out; have q9_ := HN9.out; have q10_ := HN10.out; have q11_ := HN11.out; have q12_ := HN12.out; have q13_ := HN13.out; have q14_ := HN14.out; have q15_ := HN15.out; have q16_ := HN16.out; have q17_ := HN17.out; omega)); have m1_ := Aside0.mk (blk_kept (g := gb6) (o := .cells #[.slice Ao20 s18.length co20] 31 (0, 0)) (by ((with_reducible repeat (first | refine blk_drewN ?_ _ | refine blk_drew ?_ | refine blk_alloc ?_ _)); exact BK6.out)) hk (fun h_ => by have h1_ := HI6.out; have q1_ := HN1.out; have q2_ := HN2.out; have q3_ := HN3.out; have q4_ := HN4.out; have q5_ := HN5.out; have q6_ := HN6.out; have q7_ := HN7.out; have q8_ := HN8.out; have q9_ := HN9.out; have q10_ := HN10.out; have q11_ := HN11.out; have q12_ := HN12.out; have q13_ := HN13.out; have q14_ := HN14.out; have q15_ := HN15.out; have q16_ := HN16.out; have q17_ := HN17.out; omega)); have m2_ := Aside0.mk (blk_kept (g := gb8) (o := .cells #[.slice Ao26 t9.length co26] 31 (0, 0)) (by ((with_reducible repeat (first | refine blk_drewN ?_ _ | refine blk_drew ?_ | refine blk_alloc ?_ _)); exact BK8.out)) hk (fun h_ => by have h1_ := HI8.out; have q1_ := HN1.out; have q2_ := HN2.out; have q3_ := HN3.out; have q4_ := HN4.out; have q5_ := HN5.out; have q6_ := HN6.out; have q7_ := HN7.out; have q8_ := HN8.out; have q9_ := HN9.out; have q10_ := HN10.out; have q11_ := HN11.out; have q12_ := HN12.out; have q13_ := HN13.out; have q14_ := HN14.out; have q15_ := HN15.out; have q16_ := HN16.out; have q17_ := HN17.out; omega)); have m3_ := Aside0.mk (blk_kept (g := gb10) (o := .cells #[.slice Ao34 g16.length co34] 31 (0, 0)) (by ((with_reducible repeat (first | refine blk_drewN ?_ _ | refine blk_drew ?_ | refine blk_alloc ?_ _)); exact BK10.out)) hk (fun h_ => by have h1_ := HI10.out; have q1_ := HN1.out; have q2_ := HN2.out; have q3_ := HN3.out; have q4_ := HN4.out; have q5_ := HN5.out; have q6_ := HN6.out; have q7_ := HN7.out; have q8_ := HN8.out; have q9_ := HN9.out; have q10_ := HN10.out; have q11_ := HN11.out; have q12_ := HN12.out; have q13_ := HN13.out; have q14_ := HN14.out; have q15_ := HN15.out; have q16_ := HN16.out; have q17_ := HN17.out; omega)); have m4_ := Aside0.mk (Kd.S_kept (by ((with_reducible repeat (first | apply Kd.S_alloc | apply Kd.S_drewN | apply Kd.S_drew)); exact HO11.out)) hk (fun k_ h1_ h2_ => by have q1_ := HN1.out; have q2_ := HN2.out; have q3_ := HN3.out; have q4_ := HN4.out; have q5_ := HN5.out; have q6_ := HN6.out; have q7_ := HN7.out; have q8_ := HN8.out; have q9_ := HN9.out; have q10_ := HN10.out; have q11_ := HN11.out; have q12_ := HN12.out; have q13_ := HN13.out; have q14_ := HN14.out; have q15_ := HN15.out; have q16_ := HN16.out; have q17_ := HN17.out; omega)); have m5_ := Aside0.mk (Kd.R_kept (by ((with_reducible repeat (first | apply Kd.R_alloc | apply Kd.R_drewN | apply Kd.R_drew)); exact HO15.out)) hk (fun k_ h1_ h2_ => by have q1_ := HN1.out; have q2_ := HN2.out; have q3_ := HN3.out; have q4_ := HN4.out; have q5_ := HN5.out; have q6_ := HN6.out; have q7_ := HN7.out; have q8_ := HN8.out; have q9_ := HN9.out; have q10_ := HN10.out; have q11_ := HN11.out; have q12_ := HN12.out; have q13_ := HN13.out; have q14_ := HN14.out; have q15_ := HN15.out; have q16_ := HN16.out; have q17_ := HN17.out; omega)); have m6_ := Aside0.mk (Kd.S_kept (by ((with_reducible repeat (first | apply Kd.S_alloc | apply Kd.S_drewN | apply Kd.S_drew)); exact HO20.out)) hk (fun k_ h1_ h2_ => by have q1_ := HN1.out; have q2_ := HN2.out; have q3_ := HN3.out; have q4_ := HN4.out; have q5_ := HN5.out; have q6_ := HN6.out; have q7_ := HN7.out; have q8_ := HN8.out; have q9_ := HN9.out; have q10_ := HN10.out; have q11_ := HN11.out; have q12_ := HN12.out; have q13_ := HN13.out; have q14_ := HN14.out; have q15_ := HN15.out; have q16_ := HN16.out; have q17_ := HN17.out; omega)); have m7_ := Aside0.mk (Kd.S_kept (by ((with_reducible repeat (first | apply Kd.S_alloc | apply Kd.S_drewN | apply Kd.S_drew)); exact HO26.out)) hk (fun k_ h1_ h2_ => by have q1_ := HN1.out; have q2_ := HN2.out; have q3_ := HN3.out; have q4_ := HN4.out; have q5_ := HN5.out; have q6_ := HN6.out; have q7_ := HN7.out; have q8_ := HN8.out; have q9_ := HN9.out; have q10_ := HN10.out; have q11_ := HN11.out; have q12_ := HN12.out; have q13_ := HN13.out; have q14_ := HN14.out; have q15_ := HN15.out; have q16_ := HN16.out; have q17_ := HN17.out; omega)); have m8_ := Aside0.mk (Kd.S_kept (by ((with_reducible repeat (first | apply Kd.S_alloc | apply Kd.S_drewN | apply Kd.S_drew)); exact HO34.out)) hk (fun k_ h1_ h2_ => by have q1_ := HN1.out; have q2_ := HN2.out; have q3_ := HN3.out; have q4_ := HN4.out; have q5_ := HN5.out; have q6_ := HN6.out; have q7_ := HN7.out; have q8_ := HN8.out; have q9_ := HN9.out; have q10_ := HN10.out; have q11_ := HN11.out; have q12_ := HN12.out; have q13_ := HN13.out; have q14_ := HN14.out; have q15_ := HN15.out; have q16_ := HN16.out; have q17_ := HN17.out; omega)); have m9_ := Aside0.mk (Kd.S_kept (by ((with_reducible repeat (first | apply Kd.S_alloc | apply Kd.S_drewN | apply Kd.S_drew)); exact HO42.out)) hk (fun k_ h1_ h2_ => by have q1_ := HN1.out; have q2_ := HN2.out; have q3_ := HN3.out; have q4_ := HN4.out; have q5_ := HN5.out; have q6_ := HN6.out; have q7_ := HN7.out; have q8_ := HN8.out; have q9_ := HN9.out; have q10_ := HN10.out; have q11_ := HN11.out; have q12_ := HN12.out; have q13_ := HN13.out; have q14_ := HN14.out; have q15_ := HN15.out; have q16_ := HN16.out; have q17_ := HN17.out; omega)); have m10_ := Aside0.mk (Kd.R_kept (by ((with_reducible repeat (first | apply Kd.R_alloc | apply Kd.R_drewN | apply Kd.R_drew)); exact HO46.out)) hk (fun k_ h1_ h2_ => by have q1_ := HN1.out; have q2_ := HN2.out; have q3_ := HN3.out; have q4_ := HN4.out; have q5_ := HN5.out; have q6_ := HN6.out; have q7_ := HN7.out; have q8_ := HN8.out; have q9_ := HN9.out; have q10_ := HN10.out; have q11_ := HN11.out; have q12_ := HN12.out; have q13_ := HN13.out; have q14_ := HN14.out; have q15_ := HN15.out; have q16_ := HN16.out; have q17_ := HN17.out; omega)); have mO_ := Aside0.mk (show Kd.R k33 33 w1068 w.heap.size (fun k_ => n9 ≤ k_ ∧ k_ < n10) (.slice Ao31 t13.length co31) y53 from Kd.R_mono (Kd.R_tight rfl ho_) (fun k_ hk_ => HO31.out.1 k_ hk_.symm)); have mL_ := Aside0.mk (by (repeat (first | exact HZ.out | (with_reducible first | apply sz_alloc | apply sz_drewN | apply sz_drew | apply sz_set))) : n17 ≤ _); have mZ_ := Aside0.mk (Nat.le_trans mL_.out hk.1 : n17 ≤ w1068.heap.size); have mB_ := Aside0.mk hb2_; clear BK2 BK6 BK8 BK10 HO11 HO15 HO20 HO26 HO34 HO42 HO46 HB HZ HO31; have BK2 := m0_; have BK6 := m1_; have BK8 := m2_; have BK10 := m3_; have HO11 := m4_; have HO15 := m5_; have HO20 := m6_; have HO26 := m7_; have HO34 := m8_; have HO42 := m9_; have HO46 := m10_; have HO31 := mO_; have HB := mB_; have HZ := mZ_; clear m0_ m1_ m2_ m3_ m4_ m5_ m6_ m7_ m8_ m9_ m10_ mO_ mB_ mZ_ mL_; clear ho_ hb2_ hk; have hc55_0 := (blk_cell BK6.out 0).trans (show (#[.slice Ao20 s18.length co20] : Array Value)[0]? = some (.slice Ao20 s18.length co20) from rfl); have hf55_0 := blk_frozen BK6.out 0; have hc56_0 := (blk_cell BK10.out 0).trans (show (#[.slice Ao34 g16.length co34] : Array Value)[0]? = some (.slice Ao34 g16.length co34) from rfl); have hf56_0 := blk_frozen BK10.out 0) | ((with_reducible refine gate_callee (f := 19) rfl ?_); refine goesL_ (some 85) rfl rfl Try.func19 (by kernel_rfl) rfl #[.agg #[.slice Ao34 g16.length co34], .int .i64 1] rfl (by (try simp only [List.map_toArray, List.map_cons, List.map_nil]); first | done | rfl) ?_; (with_reducible refine (laws_markMemory.calls k (fun k_ => n10 ≤ k_ ∧ k_ < n11) _ g16 1 m59 y60 w _ ?sideB ?sideO E17.out).mono ?_); (case sideB => exact (by (repeat (first | (with_reducible first | exact HB.out | apply below_alloc | apply pw_below_drewN | apply below_drew1 | refine below_set ?_ GE2.out | refine below_set ?_ GE6.out | refine below_set ?_ GE8.out | refine below_set ?_ GE10.out) | exact HB.out)))); (case sideO => exact (by ((with_reducible repeat (first | apply Kd.S_alloc | apply Kd.S_drewN | apply Kd.S_drew)); exact HO34.out))); rintro e w1077 ⟨rfl, ho_, hb2_, hk⟩; refine ⟨_, rfl, ?_⟩; have m0_ := Aside0.mk (blk_kept (g := gb2) (o := .cells #[.slice A0_0 l0_0.length c0_0] 24 (0, 0)) (by ((with_reducible repeat (first | refine blk_drewN ?_ _ | refine blk_drew ?_ | refine blk_alloc ?_ _)); exact BK2.out)) hk (fun h_ => by have h1_ := HI2.out; have q1_ := HN1.out; have q2_ := HN2.out; have q3_ := HN3.out; have q4_ := HN4.out; have q5_ := HN5.out; have q6_ := HN6.out; have q7_ := HN7.out; have q8_ := HN8.out; have q9_ := HN9.out; have q10_ := HN10.out; have q11_ := HN11.out; have q12_ := HN12.out; have q13_ := HN13.out; have q14_ := HN14.out; have q15_ := HN15.out; have q16_ := HN16.out; have q17_ := HN17.out; have q18_ := HN18.out; omega)); have m1_ := Aside0.mk (blk_kept (g := gb6) (o := .cells #[.slice Ao20 s18.length co20] 31 (0, 0)) (by ((with_reducible repeat (first | refine blk_drewN ?_ _ | refine blk_drew ?_ | refine blk_alloc ?_ _)); exact BK6.out)) hk (fun h_ => by have h1_ := HI6.out; have q1_ := HN1.out; have q2_ := HN2.out; have q3_ := HN3.out; have q4_ := HN4.out; have q5_ := HN5.out; have q6_ := HN6.out; have q7_ := HN7.out; have q8_ := HN8.out; have q9_ := HN9.out; have q10_ := HN10.out; have q11_ := HN11.out; have q12_ := HN12.out; have q13_ := HN13.out; have q14_ := HN14.out; have q15_ := HN15.out; have q16_ := HN16.out; have q17_ := HN17.out; have q18_ := HN18.out; omega)); have m2_ := Aside0.mk (blk_kept (g := gb8) (o := .cells #[.slice Ao26 t9.length co26] 31 (0, 0)) (by ((with_reducible repeat (first | refine blk_drewN ?_ _ | refine blk_drew ?_ | refine blk_alloc ?_ _)); exact BK8.out)) hk (fun h_ => by have h1_ := HI8.out; have q1_ := HN1.out; have q2_ := HN2.out; have q3_ := HN3.out; have q4_ := HN4.out; have q5_ := HN5.out; have q6_ := HN6.out; have q7_ := HN7.out; have q8_ := HN8.out; have q9_ := HN9.out; have q10_ := HN10.out; have q11_ := HN11.out; have q12_ := HN12.out; have q13_ := HN13.out; have q14_ := HN14.out; have q15_ := HN15.out; have q16_ := HN16.out; have q17_ := HN17.out; have q18_ := HN18.out; omega)); have m3_ := Aside0.mk (blk_kept (g := gb10) (o := .cells #[.slice Ao34 g16.length co34] 31 (0, 0)) (by ((with_reducible repeat (first | refine blk_drewN ?_ _ | refine blk_drew ?_ | refine blk_alloc ?_ _)); exact BK10.out)) hk (fun h_ => by have h1_ := HI10.out; have q1_ := HN1.out; have q2_ := HN2.out; have q3_ := HN3.out; have q4_ := HN4.out; have q5_ := HN5.out; have q6_ := HN6.out; have q7_ := HN7.out; have q8_ := HN8.out; have q9_ := HN9.out; have q10_ := HN10.out; have q11_ := HN11.out; have q12_ := HN12.out; have q13_ := HN13.out; have q14_ := HN14.out; have q15_ := HN15.out; have q16_ := HN16.out; have q17_ := HN17.out; have q18_ := HN18.out; omega)); have m4_ := Aside0.mk (Kd.S_kept (by ((with_reducible repeat (first | apply Kd.S_alloc | apply Kd.S_drewN | apply Kd.S_drew)); exact HO11.out)) hk (fun k_ h1_ h2_ => by have q1_ := HN1.out; have q2_ := HN2.out; have q3_ := HN3.out; have q4_ := HN4.out; have q5_ := HN5.out; have q6_ := HN6.out; have q7_ := HN7.out; have q8_ := HN8.out; have q9_ := HN9.out; have q10_ := HN10.out; have q11_ := HN11.out; have q12_ := HN12.out; have q13_ := HN13.out; have q14_ := HN14.out; have q15_ := HN15.out; have q16_ := HN16.out; have q17_ := HN17.out; have q18_ := HN18.out; omega)); have m5_ := Aside0.mk (Kd.R_kept (by ((with_reducible repeat (first | apply Kd.R_alloc | apply Kd.R_drewN | apply Kd.R_drew)); exact HO15.out)) hk (fun k_ h1_ h2_ => by have q1_ := HN1.out; have q2_ := HN2.out; have q3_ := HN3.out; have q4_ := HN4.out; have q5_ := HN5.out; have q6_ := HN6.out; have q7_ := HN7.out; have q8_ := HN8.out; have q9_ := HN9.out; have q10_ := HN10.out; have q11_ := HN11.out; have q12_ := HN12.out; have q13_ := HN13.out; have q14_ := HN14.out; have q15_ := HN15.out; have q16_ := HN16.out; have q17_ := HN17.out; have q18_ := HN18.out; omega)); have m6_ := Aside0.mk (Kd.S_kept (by ((with_reducible repeat (first | apply Kd.S_alloc | apply Kd.S_drewN | apply Kd.S_drew)); exact HO20.out)) hk (fun k_ h1_ h2_ => by have q1_ := HN1.out; have q2_ := HN2.out; have q3_ := HN3.out; have q4_ := HN4.out; have q5_ := HN5.out; have q6_ := HN6.out; have q7_ := HN7.out; have q8_ := HN8.out; have q9_ := HN9.out; have q10_ := HN10.out; have q11_ := HN11.out; have q12_ := HN12.out; have q13_ := HN13.out; have q14_ := HN14.out; have q15_ := HN15.out; have q16_ := HN16.out; have q17_ := HN17.out; have q18_ := HN18.out; omega)); have m7_ := Aside0.mk (Kd.S_kept (by ((with_reducible repeat (first | apply Kd.S_alloc | apply Kd.S_drewN | apply Kd.S_drew)); exact HO26.out)) hk (fun k_ h1_ h2_ => by have q1_ := HN1.out; have q2_ := HN2.out; have q3_ := HN3.out; have q4_ := HN4.out; have q5_ := HN5.out; have q6_ := HN6.out; have q7_ := HN7.out; have q8_ := HN8.out; have q9_ := HN9.out; have q10_ := HN10.out; have q11_ := HN11.out; have q12_ := HN12.out; have q13_ := HN13.out; have q14_ := HN14.out; have q15_ := HN15.out; have q16_ := HN16.out; have q17_ := HN17.out; have q18_ := HN18.out; omega)); have m8_ := Aside0.mk (Kd.R_kept (by ((with_reducible repeat (first | apply Kd.R_alloc | apply Kd.R_drewN | apply Kd.R_drew)); exact HO31.out)) hk (fun k_ h1_ h2_ => by have q1_ := HN1.out; have q2_ := HN2.out; have q3_ := HN3.out; have q4_ := HN4.out; have q5_ := HN5.out; have q6_ := HN6.out; have q7_ := HN7.out; have q8_ := HN8.out; have q9_ := HN9.out; have q10_ := HN10.out; have q11_ := HN11.out; have q12_ := HN12.out; have q13_ := HN13.out; have q14_ := HN14.out; have q15_ := HN15.out; have q16_ := HN16.out; have q17_ := HN17.out; have q18_ := HN18.out; omega)); have m9_ := Aside0.mk (Kd.S_kept (by ((with_reducible repeat (first | apply Kd.S_alloc | apply Kd.S_drewN | apply Kd.S_drew)); exact HO42.out)) hk (fun k_ h1_ h2_ => by have q1_ := HN1.out; have q2_ := HN2.out; have q3_ := HN3.out; have q4_ := HN4.out; have q5_ := HN5.out; have q6_ := HN6.out; have q7_ := HN7.out; have q8_ := HN8.out; have q9_ := HN9.out; have q10_ := HN10.out; have q11_ := HN11.out; have q12_ := HN12.out; have q13_ := HN13.out; have q14_ := HN14.out; have q15_ := HN15.out; have q16_ := HN16.out; have q17_ := HN17.out; have q18_ := HN18.out; omega)); have m10_ := Aside0.mk (Kd.R_kept (by ((with_reducible repeat (first | apply Kd.R_alloc | apply Kd.R_drewN | apply Kd.R_drew)); exact HO46.out)) hk (fun k_ h1_ h2_ => by have q1_ := HN1.out; have q2_ := HN2.out; have q3_ := HN3.out; have q4_ := HN4.out; have q5_ := HN5.out; have q6_ := HN6.out; have q7_ := HN7.out; have q8_ := HN8.out; have q9_ := HN9.out; have q10_ := HN10.out; have q11_ := HN11.out; have q12_ := HN12.out; have q13_ := HN13.out; have q14_ := HN14.out; have q15_ := HN15.out; have q16_ := HN16.out; have q17_ := HN17.out; have q18_ := HN18.out; omega)); have mO_ := Aside0.mk (show Kd.S (Kd.slice 5 (Kd.int .u8)) 28 w1077 w.heap.size (fun k_ => n10 ≤ k_ ∧ k_ < n11) (.slice Ao34 g16.length co34) y60 from ho_); have mL_ := Aside0.mk (by (repeat (first | exact HZ.out | (with_reducible first | apply sz_alloc | apply sz_drewN | apply sz_drew | apply sz_set))) : n18 ≤ _); have mZ_ := Aside0.mk (Nat.le_trans mL_.out hk.1 : n18 ≤ w1077.heap.size); have mB_ := Aside0.mk hb2_; clear BK2 BK6 BK8 BK10 HO11 HO15 HO20 HO26 HO31 HO42 HO46 HB HZ HO34; have BK2 := m0_; have BK6 := m1_; have BK8 := m2_; have BK10 := m3_; have HO11 := m4_; have HO15 := m5_; have HO20 := m6_; have HO26 := m7_; have HO31 := m8_; have HO42 := m9_; have HO46 := m10_; have HO34 := mO_; have HB := mB_; have HZ := mZ_; clear m0_ m1_ m2_ m3_ m4_ m5_ m6_ m7_ m8_ m9_ m10_ mO_ mB_ mZ_ mL_; clear ho_ hb2_ hk; have hc62_0 := (blk_cell BK10.out 0).trans (show (#[.slice Ao34 g16.length co34] : Array Value)[0]? = some (.slice Ao34 g16.length co34) from rfl); have hf62_0 := blk_frozen BK10.out 0) | ((with_reducible refine gate_callee (f := 37) rfl ?_); refine goesL_ (some 88) rfl rfl Try.func37 (by kernel_rfl) rfl #[.agg #[.slice Ao34 y60.length co34], .int .i64 1] rfl (by (try simp only [List.map_toArray, List.map_cons, List.map_nil]); first | done | (rw [show g16.length = y60.length from (Kd.S_reads' HO34.out).1] <;> rfl) | rfl) ?_; (with_reducible refine (laws_heldMemory.calls k _ _ y60 1 m59 _ ?sr0 ?sc0 E18.out).mono ?_); (case sr0 => repeat (first | exact (Kd.S_reads' HO34.out).2.2 | (with_reducible refine Kd.C_alloc ?_ _) | (with_reducible refine Kd.C_drewN ?_ _) | (with_reducible refine Kd.C_drew ?_))); (case sc0 => first | exact (Kd.S_reads' HO34.out).2.1 | exact Nat.le_trans (Nat.le_of_eq (Kd.S_reads' HO34.out).1.symm) (Kd.S_reads' HO34.out).2.1); rintro e w1080 ⟨rfl, hb⟩; refine ⟨_, rfl, ?_⟩; have m0_ := Aside0.mk (blk_below (g := gb2) (o := .cells #[.slice A0_0 l0_0.length c0_0] 24 (0, 0)) (by ((with_reducible repeat (first | refine blk_drewN ?_ _ | refine blk_drew ?_ | refine blk_alloc ?_ _)); exact BK2.out)) hb); have m1_ := Aside0.mk (blk_below (g := gb6) (o := .cells #[.slice Ao20 s18.length co20] 31 (0, 0)) (by ((with_reducible repeat (first | refine blk_drewN ?_ _ | refine blk_drew ?_ | refine blk_alloc ?_ _)); exact BK6.out)) hb); have m2_ := Aside0.mk (blk_below (g := gb8) (o := .cells #[.slice Ao26 t9.length co26] 31 (0, 0)) (by ((with_reducible repeat (first | refine blk_drewN ?_ _ | refine blk_drew ?_ | refine blk_alloc ?_ _)); exact BK8.out)) hb); have m3_ := Aside0.mk (blk_below (g := gb10) (o := .cells #[.slice Ao34 g16.length co34] 31 (0, 0)) (by ((with_reducible repeat (first | refine blk_drewN ?_ _ | refine blk_drew ?_ | refine blk_alloc ?_ _)); exact BK10.out)) hb); have m4_ := Aside0.mk (Kd.S_below (by ((with_reducible repeat (first | apply Kd.S_alloc | apply Kd.S_drewN | apply Kd.S_drew)); exact HO11.out)) hb); have m5_ := Aside0.mk (Kd.R_below (by ((with_reducible repeat (first | apply Kd.R_alloc | apply Kd.R_drewN | apply Kd.R_drew)); exact HO15.out)) hb); have m6_ := Aside0.mk (Kd.S_below (by ((with_reducible repeat (first | apply Kd.S_alloc | apply Kd.S_drewN | apply Kd.S_drew)); exact HO20.out)) hb); have m7_ := Aside0.mk (Kd.S_below (by ((with_reducible repeat (first | apply Kd.S_alloc | apply Kd.S_drewN | apply Kd.S_drew)); exact HO26.out)) hb); have m8_ := Aside0.mk (Kd.R_below (by ((with_reducible repeat (first | apply Kd.R_alloc | apply Kd.R_drewN | apply Kd.R_drew)); exact HO31.out)) hb); have m9_ := Aside0.mk (Kd.S_below (by ((with_reducible repeat (first | apply Kd.S_alloc | apply Kd.S_drewN | apply Kd.S_drew)); exact HO34.out)) hb); have m10_ := Aside0.mk (Kd.S_below (by ((with_reducible repeat (first | apply Kd.S_alloc | apply Kd.S_drewN | apply Kd.S_drew)); exact HO42.out)) hb); have m11_ := Aside0.mk (Kd.R_below (by ((with_reducible repeat (first | apply Kd.R_alloc | apply Kd.R_drewN | apply Kd.R_drew)); exact HO46.out)) hb); have mB_ := Aside0.mk (below_step (by (repeat (first | (with_reducible first | exact HB.out | apply below_alloc | apply pw_below_drewN | apply below_drew1 | refine below_set ?_ GE2.out | refine below_set ?_ GE6.out | refine below_set ?_ GE8.out | refine below_set ?_ GE10.out) | exact HB.out))) hb); have mL_ := Aside0.mk (by (repeat (first | exact HZ.out | (with_reducible first | apply sz_alloc | apply sz_drewN | apply sz_drew | apply sz_set))) : n18 ≤ _); obtain ⟨n19, hn_⟩ : ∃ n_, n_ = w1080.heap.size := ⟨_, rfl⟩; have mN_ := Aside0.mk (by rw [hn_]; exact Nat.le_trans mL_.out hb.size : n18 ≤ n19); have mZ_ := Aside0.mk (Nat.le_of_eq hn_ : n19 ≤ w1080.heap.size); clear BK2 BK6 BK8 BK10 HO11 HO15 HO20 HO26 HO31 HO34 HO42 HO46 HB HZ; have BK2 := m0_; have BK6 := m1_; have BK8 := m2_; have BK10 := m3_; have HO11 := m4_; have HO15 := m5_; have HO20 := m6_; have HO26 := m7_; have HO31 := m8_; have HO34 := m9_; have HO42 := m10_; have HO46 := m11_; have HB := mB_; have HZ := mZ_; have HN19 := mN_; clear m0_ m1_ m2_ m3_ m4_ m5_ m6_ m7_ m8_ m9_ m10_ m11_ mB_ mN_ mZ_ mL_; (try clear hn_); clear hb; have hc64_0 := (blk_cell BK2.out 0).trans (show (#[.slice A0_0 l0_0.length c0_0] : Array Value)[0]? = some (.slice A0_0 l0_0.length c0_0) from rfl); have hf64_0 := blk_frozen BK2.out 0) | ((with_reducible refine gate_callee (f := 14) rfl ?_); refine goesL_ (some 96) rfl rfl Try.func14 (by kernel_rfl) rfl #[.agg #[.slice A0_0 l0_0.length c0_0]] rfl (by (try simp only [List.map_toArray, List.map_cons, List.map_nil]); first | done | rfl) ?_; (with_reducible refine (laws_toMemory.calls k _ _ l0_0 t9 _ ?sr0 ?sc0 E3.out).mono ?_); (case sr0 => exact Kd.C_below HR0_0.out (by (repeat (first | (with_reducible first | exact HB.out | apply below_alloc | apply pw_below_drewN | apply below_drew1 | refine below_set ?_ GE2.out | refine below_set ?_ GE6.out | refine below_set ?_ GE8.out | refine below_set ?_ GE10.out) | exact HB.out)))); (case sc0 => exact HC0_0.out); rintro e w1084 ⟨v19_0, rfl, ho0_, hb⟩; refine ⟨_, rfl, ?_⟩; have m0_ := Aside0.mk (blk_below (g := gb2) (o := .cells #[.slice A0_0 l0_0.length c0_0] 24 (0, 0)) (by ((with_reducible repeat (first | refine blk_drewN ?_ _ | refine blk_drew ?_ | refine blk_alloc ?_ _)); exact BK2.out)) hb); have m1_ := Aside0.mk (blk_below (g := gb6) (o := .cells #[.slice Ao20 s18.length co20] 31 (0, 0)) (by ((with_reducible repeat (first | refine blk_drewN ?_ _ | refine blk_drew ?_ | refine blk_alloc ?_ _)); exact BK6.out)) hb); have m2_ := Aside0.mk (blk_below (g := gb8) (o := .cells #[.slice Ao26 t9.length co26] 31 (0, 0)) (by ((with_reducible repeat (first | refine blk_drewN ?_ _ | refine blk_drew ?_ | refine blk_alloc ?_ _)); exact BK8.out)) hb); have m3_ := Aside0.mk (blk_below (g := gb10) (o := .cells #[.slice Ao34 g16.length co34] 31 (0, 0)) (by ((with_reducible repeat (first | refine blk_drewN ?_ _ | refine blk_drew ?_ | refine blk_alloc ?_ _)); exact BK10.out)) hb); have m4_ := Aside0.mk (Kd.S_below (by ((with_reducible repeat (first | apply Kd.S_alloc | apply Kd.S_drewN | apply Kd.S_drew)); exact HO11.out)) hb); have m5_ := Aside0.mk (Kd.R_below (by ((with_reducible repeat (first | apply Kd.R_alloc | apply Kd.R_drewN | apply Kd.R_drew)); exact HO15.out)) hb); have m6_ := Aside0.mk (Kd.S_below (by ((with_reducible repeat (first | apply Kd.S_alloc | apply Kd.S_drewN | apply Kd.S_drew)); exact HO20.out)) hb); have m7_ := Aside0.mk (Kd.S_below (by ((with_reducible repeat (first | apply Kd.S_alloc | apply Kd.S_drewN | apply Kd.S_drew)); exact HO26.out)) hb); have m8_ := Aside0.mk (Kd.R_below (by ((with_reducible repeat (first | apply Kd.R_alloc | apply Kd.R_drewN | apply Kd.R_drew)); exact HO31.out)) hb); have m9_ := Aside0.mk (Kd.S_below (by ((with_reducible repeat (first | apply Kd.S_alloc | apply Kd.S_drewN | apply Kd.S_drew)); exact HO34.out)) hb); have m10_ := Aside0.mk (Kd.S_below (by ((with_reducible repeat (first | apply Kd.S_alloc | apply Kd.S_drewN | apply Kd.S_drew)); exact HO42.out)) hb); have m11_ := Aside0.mk (Kd.R_below (by ((with_reducible repeat (first | apply Kd.R_alloc | apply Kd.R_drewN | apply Kd.R_drew)); exact HO46.out)) hb); have mB_ := Aside0.mk (below_step (by (repeat (first | (with_reducible first | exact HB.out | apply below_alloc | apply pw_below_drewN | apply below_drew1 | refine below_set ?_ GE2.out | refine below_set ?_ GE6.out | refine below_set ?_ GE8.out | refine below_set ?_ GE10.out) | exact HB.out))) hb); have mL_ := Aside0.mk (by (repeat (first | exact HZ.out | (with_reducible first | apply sz_alloc | apply sz_drewN | apply sz_drew | apply sz_set))) : n19 ≤ _); obtain ⟨n20, hn_⟩ : ∃ n_, n_ = w1084.heap.size := ⟨_, rfl⟩; have mN_ := Aside0.mk (by rw [hn_]; exact Nat.le_trans mL_.out hb.size : n19 ≤ n20); have mZ_ := Aside0.mk (Nat.le_of_eq hn_ : n20 ≤ w1084.heap.size); have xHO67_ := Aside0.mk (show Kd.S (Kd.slice 5 (Kd.int .u8)) 28 w1084 w.heap.size (fun k_ => n19 ≤ k_ ∧ k_ < n20) _ t9 from Kd.S_mono (Kd.S_lower (Kd.S_bound ho0_) (below_size (by (repeat (first | (with_reducible first | exact HB.out | apply below_alloc | apply pw_below_drewN | apply below_drew1 | refine below_set ?_ GE2.out | refine below_set ?_ GE6.out | refine below_set ?_ GE8.out | refine below_set ?_ GE10.out) | exact HB.out))))) (fun k_ hk_ => ⟨Nat.le_trans mL_.out hk_.2.1, by rw [hn_]; exact hk_.2.2.1⟩)); clear BK2 BK6 BK8 BK10 HO11 HO15 HO20 HO26 HO31 HO34 HO42 HO46 HB HZ; have BK2 := m0_; have BK6 := m1_; have BK8 := m2_; have BK10 := m3_; have HO11 := m4_; have HO15 := m5_; have HO20 := m6_; have HO26 := m7_; have HO31 := m8_; have HO34 := m9_; have HO42 := m10_; have HO46 := m11_; have HB := mB_; have HZ := mZ_; have HN20 := mN_; have HO67 := xHO67_; clear m0_ m1_ m2_ m3_ m4_ m5_ m6_ m7_ m8_ m9_ m10_ m11_ mB_ mN_ mZ_ mL_ xHO67_; (try clear hn_); clear hb ho0_; obtain ⟨Ao67, co67, eo_⟩ := Kd.S_slice HO67.out; subst eo_) | ((with_reducible refine gate_callee (f := 24) rfl ?_); refine goesL_ (some 98) rfl rfl Try.func24 (by kernel_rfl) rfl #[.slice A1 l1.length c1] rfl (by (try simp only [List.map_toArray, List.map_cons, List.map_nil]); first | done | rfl) ?_; (with_reducible refine (laws_toWindowS.calls k _ _ l1 t13 _ ?sr0 ?sc0 E4.out).mono ?_); (case sr0 => exact Kd.C_below HR1.out (by (repeat (first | (with_reducible first | exact HB.out | apply below_alloc | apply pw_below_drewN | apply below_drew1 | refine below_set ?_ GE2.out | refine below_set ?_ GE6.out | refine below_set ?_ GE8.out | refine below_set ?_ GE10.out) | exact HB.out)))); (case sc0 => exact HC1.out); rintro e w1088 ⟨v20_0, rfl, ho0_, hb⟩; refine ⟨_, rfl, ?_⟩; have m0_ := Aside0.mk (blk_below (g := gb2) (o := .cells #[.slice A0_0 l0_0.length c0_0] 24 (0, 0)) (by ((with_reducible repeat (first | refine blk_drewN ?_ _ | refine blk_drew ?_ | refine blk_alloc ?_ _)); exact BK2.out)) hb); have m1_ := Aside0.mk (blk_below (g := gb6) (o := .cells #[.slice Ao20 s18.length co20] 31 (0, 0)) (by ((with_reducible repeat (first | refine blk_drewN ?_ _ | refine blk_drew ?_ | refine blk_alloc ?_ _)); exact BK6.out)) hb); have m2_ := Aside0.mk (blk_below (g := gb8) (o := .cells #[.slice Ao26 t9.length co26] 31 (0, 0)) (by ((with_reducible repeat (first | refine blk_drewN ?_ _ | refine blk_drew ?_ | refine blk_alloc ?_ _)); exact BK8.out)) hb); have m3_ := Aside0.mk (blk_below (g := gb10) (o := .cells #[.slice Ao34 g16.length co34] 31 (0, 0)) (by ((with_reducible repeat (first | refine blk_drewN ?_ _ | refine blk_drew ?_ | refine blk_alloc ?_ _)); exact BK10.out)) hb); have m4_ := Aside0.mk (Kd.S_below (by ((with_reducible repeat (first | apply Kd.S_alloc | apply Kd.S_drewN | apply Kd.S_drew)); exact HO11.out)) hb); have m5_ := Aside0.mk (Kd.R_below (by ((with_reducible repeat (first | apply Kd.R_alloc | apply Kd.R_drewN | apply Kd.R_drew)); exact HO15.out)) hb); have m6_ := Aside0.mk (Kd.S_below (by ((with_reducible repeat (first | apply Kd.S_alloc | apply Kd.S_drewN | apply Kd.S_drew)); exact HO20.out)) hb); have m7_ := Aside0.mk (Kd.S_below (by ((with_reducible repeat (first | apply Kd.S_alloc | apply Kd.S_drewN | apply Kd.S_drew)); exact HO26.out)) hb); have m8_ := Aside0.mk (Kd.R_below (by ((with_reducible repeat (first | apply Kd.R_alloc | apply Kd.R_drewN | apply Kd.R_drew)); exact HO31.out)) hb); have m9_ := Aside0.mk (Kd.S_below (by ((with_reducible repeat (first | apply Kd.S_alloc | apply Kd.S_drewN | apply Kd.S_drew)); exact HO34.out)) hb); have m10_ := Aside0.mk (Kd.S_below (by ((with_reducible repeat (first | apply Kd.S_alloc | apply Kd.S_drewN | apply Kd.S_drew)); exact HO42.out)) hb); have m11_ := Aside0.mk (Kd.R_below (by ((with_reducible repeat (first | apply Kd.R_alloc | apply Kd.R_drewN | apply Kd.R_drew)); exact HO46.out)) hb); have m12_ := Aside0.mk (Kd.S_below (by ((with_reducible repeat (first | apply Kd.S_alloc | apply Kd.S_drewN | apply Kd.S_drew)); exact HO67.out)) hb); have mB_ := Aside0.mk (below_step (by (repeat (first | (with_reducible first | exact HB.out | apply below_alloc | apply pw_below_drewN | apply below_drew1 | refine below_set ?_ GE2.out | refine below_set ?_ GE6.out | refine below_set ?_ GE8.out | refine below_set ?_ GE10.out) | exact HB.out))) hb); have mL_ := Aside0.mk (by (repeat (first | exact HZ.out | (with_reducible first | apply sz_alloc | apply sz_drewN | apply sz_drew | apply sz_set))) : n20 ≤ _); obtain ⟨n21, hn_⟩ : ∃ n_, n_ = w1088.heap.size := ⟨_, rfl⟩; have mN_ := Aside0.mk (by rw [hn_]; exact Nat.le_trans mL_.out hb.size : n20 ≤ n21); have mZ_ := Aside0.mk (Nat.le_of_eq hn_ : n21 ≤ w1088.heap.size); have xHO70_ := Aside0.mk (show Kd.R k33 33 w1088 w.heap.size (fun k_ => n20 ≤ k_ ∧ k_ < n21) _ t13 from Kd.R_mono (Kd.R_lower (Kd.R_bound ho0_) (below_size (by (repeat (first | (with_reducible first | exact HB.out | apply below_alloc | apply pw_below_drewN | apply below_drew1 | refine below_set ?_ GE2.out | refine below_set ?_ GE6.out | refine below_set ?_ GE8.out | refine below_set ?_ GE10.out) | exact HB.out))))) (fun k_ hk_ => ⟨Nat.le_trans mL_.out hk_.2.1, by rw [hn_]; exact hk_.2.2.1⟩)); clear BK2 BK6 BK8 BK10 HO11 HO15 HO20 HO26 HO31 HO34 HO42 HO46 HO67 HB HZ; have BK2 := m0_; have BK6 := m1_; have BK8 := m2_; have BK10 := m3_; have HO11 := m4_; have HO15 := m5_; have HO20 := m6_; have HO26 := m7_; have HO31 := m8_; have HO34 := m9_; have HO42 := m10_; have HO46 := m11_; have HO67 := m12_; have HB := mB_; have HZ := mZ_; have HN21 := mN_; have HO70 := xHO70_; clear m0_ m1_ m2_ m3_ m4_ m5_ m6_ m7_ m8_ m9_ m10_ m11_ m12_ mB_ mN_ mZ_ mL_ xHO70_; (try clear hn_); clear hb ho0_; obtain ⟨Ao70, co70, eo_⟩ := Kd.R_slice HO70.out; subst eo_) | ((with_reducible refine gate_callee (f := 36) rfl ?_); refine goesL_ (some 99) rfl rfl Try.func36 (by kernel_rfl) rfl #[.agg #[.slice Ao67 t9.length co67], .slice Ao70 t13.length co70] rfl (by (try simp only [List.map_toArray, List.map_cons, List.map_nil]); first | done | rfl) ?_; (with_reducible refine (impl_TakeSnapshot.calls k _ _ t9 _ _ t13 g16 ok17 _ ?sr0 ?sc0 ?sr1 ?sc1 E8.out).mono ?_); (case sr0 => repeat (first | exact (Kd.S_reads' HO67.out).2.2 | (with_reducible refine Kd.C_alloc ?_ _) | (with_reducible refine Kd.C_drewN ?_ _) | (with_reducible refine Kd.C_drew ?_))); (case sc0 => first | exact (Kd.S_reads' HO67.out).2.1 | exact Nat.le_trans (Nat.le_of_eq (Kd.S_reads' HO67.out).1.symm) (Kd.S_reads' HO67.out).2.1); (case sr1 => repeat (first | exact (Kd.R_reads' HO70.out).2.2 | (with_reducible refine Kd.C_alloc ?_ _) | (with_reducible refine Kd.C_drewN ?_ _) | (with_reducible refine Kd.C_drew ?_))); (case sc1 => first | exact (Kd.R_reads' HO70.out).2.1 | exact Nat.le_trans (Nat.le_of_eq (Kd.R_reads' HO70.out).1.symm) (Kd.R_reads' HO70.out).2.1); rintro e w1091 ⟨v21_0, rfl, ho0_, hb⟩; refine ⟨_, rfl, ?_⟩; have m0_ := Aside0.mk (blk_below (g := gb2) (o := .cells #[.slice A0_0 l0_0.length c0_0] 24 (0, 0)) (by ((with_reducible repeat (first | refine blk_drewN ?_ _ | refine blk_drew ?_ | refine blk_alloc ?_ _)); exact BK2.out)) hb); have m1_ := Aside0.mk (blk_below (g := gb6) (o := .cells #[.slice Ao20 s18.length co20] 31 (0, 0)) (by ((with_reducible repeat (first | refine blk_drewN ?_ _ | refine blk_drew ?_ | refine blk_alloc ?_ _)); exact BK6.out)) hb); have m2_ := Aside0.mk (blk_below (g := gb8) (o := .cells #[.slice Ao26 t9.length co26] 31 (0, 0)) (by ((with_reducible repeat (first | refine blk_drewN ?_ _ | refine blk_drew ?_ | refine blk_alloc ?_ _)); exact BK8.out)) hb); have m3_ := Aside0.mk (blk_below (g := gb10) (o := .cells #[.slice Ao34 g16.length co34] 31 (0, 0)) (by ((with_reducible repeat (first | refine blk_drewN ?_ _ | refine blk_drew ?_ | refine blk_alloc ?_ _)); exact BK10.out)) hb); have m4_ := Aside0.mk (Kd.S_below (by ((with_reducible repeat (first | apply Kd.S_alloc | apply Kd.S_drewN | apply Kd.S_drew)); exact HO11.out)) hb); have m5_ := Aside0.mk (Kd.R_below (by ((with_reducible repeat (first | apply Kd.R_alloc | apply Kd.R_drewN | apply Kd.R_drew)); exact HO15.out)) hb); have m6_ := Aside0.mk (Kd.S_below (by ((with_reducible repeat (first | apply Kd.S_alloc | apply Kd.S_drewN | apply Kd.S_drew)); exact HO20.out)) hb); have m7_ := Aside0.mk (Kd.S_below (by ((with_reducible repeat (first | apply Kd.S_alloc | apply Kd.S_drewN | apply Kd.S_drew)); exact HO26.out)) hb); have m8_ := Aside0.mk (Kd.R_below (by ((with_reducible repeat (first | apply Kd.R_alloc | apply Kd.R_drewN | apply Kd.R_drew)); exact HO31.out)) hb); have m9_ := Aside0.mk (Kd.S_below (by ((with_reducible repeat (first | apply Kd.S_alloc | apply Kd.S_drewN | apply Kd.S_drew)); exact HO34.out)) hb); have m10_ := Aside0.mk (Kd.S_below (by ((with_reducible repeat (first | apply Kd.S_alloc | apply Kd.S_drewN | apply Kd.S_drew)); exact HO42.out)) hb); have m11_ := Aside0.mk (Kd.R_below (by ((with_reducible repeat (first | apply Kd.R_alloc | apply Kd.R_drewN | apply Kd.R_drew)); exact HO46.out)) hb); have m12_ := Aside0.mk (Kd.S_below (by ((with_reducible repeat (first | apply Kd.S_alloc | apply Kd.S_drewN | apply Kd.S_drew)); exact HO67.out)) hb); have m13_ := Aside0.mk (Kd.R_below (by ((with_reducible repeat (first | apply Kd.R_alloc | apply Kd.R_drewN | apply Kd.R_drew)); exact HO70.out)) hb); have mB_ := Aside0.mk (below_step (by (repeat (first | (with_reducible first | exact HB.out | apply below_alloc | apply pw_below_drewN | apply below_drew1 | refine below_set ?_ GE2.out | refine below_set ?_ GE6.out | refine below_set ?_ GE8.out | refine below_set ?_ GE10.out) | exact HB.out))) hb); have mL_ := Aside0.mk (by (repeat (first | exact HZ.out | (with_reducible first | apply sz_alloc | apply sz_drewN | apply sz_drew | apply sz_set))) : n21 ≤ _); obtain ⟨n22, hn_⟩ : ∃ n_, n_ = w1091.heap.size := ⟨_, rfl⟩; have mN_ := Aside0.mk (by rw [hn_]; exact Nat.le_trans mL_.out hb.size : n21 ≤ n22); have mZ_ := Aside0.mk (Nat.le_of_eq hn_ : n22 ≤ w1091.heap.size); have xHO72_ := Aside0.mk (show Kd.S (Kd.slice 5 (Kd.int .u8)) 28 w1091 w.heap.size (fun k_ => n21 ≤ k_ ∧ k_ < n22) _ g16 from Kd.S_mono (Kd.S_lower (Kd.S_bound ho0_) (below_size (by (repeat (first | (with_reducible first | exact HB.out | apply below_alloc | apply pw_below_drewN | apply below_drew1 | refine below_set ?_ GE2.out | refine below_set ?_ GE6.out | refine below_set ?_ GE8.out | refine below_set ?_ GE10.out) | exact HB.out))))) (fun k_ hk_ => ⟨Nat.le_trans mL_.out hk_.2.1, by rw [hn_]; exact hk_.2.2.1⟩)); clear BK2 BK6 BK8 BK10 HO11 HO15 HO20 HO26 HO31 HO34 HO42 HO46 HO67 HO70 HB HZ; have BK2 := m0_; have BK6 := m1_; have BK8 := m2_; have BK10 := m3_; have HO11 := m4_; have HO15 := m5_; have HO20 := m6_; have HO26 := m7_; have HO31 := m8_; have HO34 := m9_; have HO42 := m10_; have HO46 := m11_; have HO67 := m12_; have HO70 := m13_; have HB := mB_; have HZ := mZ_; have HN22 := mN_; have HO72 := xHO72_; clear m0_ m1_ m2_ m3_ m4_ m5_ m6_ m7_ m8_ m9_ m10_ m11_ m12_ m13_ mB_ mN_ mZ_ mL_ xHO72_; (try clear hn_); clear hb ho0_; obtain ⟨Ao72, co72, eo_⟩ := Kd.S_slice HO72.out; subst eo_) | ((with_reducible refine gate_dst (N := 15) rfl ?_); refine box_event ?hg (N := 15) ?hd (cs := #[.slice none 0 0]) (t := 31) ?hr ?_; (case hd => rfl); (case hg => rfl); (case hr => first | (go_simp; done) | (go_simp; rfl)); intro gb15 hg_ w3073 hbox hb; have m0_ := Aside0.mk (blk_below (g := gb2) (o := .cells #[.slice A0_0 l0_0.length c0_0] 24 (0, 0)) (by ((with_reducible repeat (first | refine blk_drewN ?_ _ | refine blk_drew ?_ | refine blk_alloc ?_ _)); exact BK2.out)) hb); have m1_ := Aside0.mk (blk_below (g := gb6) (o := .cells #[.slice Ao20 s18.length co20] 31 (0, 0)) (by ((with_reducible repeat (first | refine blk_drewN ?_ _ | refine blk_drew ?_ | refine blk_alloc ?_ _)); exact BK6.out)) hb); have m2_ := Aside0.mk (blk_below (g := gb8) (o := .cells #[.slice Ao26 t9.length co26] 31 (0, 0)) (by ((with_reducible repeat (first | refine blk_drewN ?_ _ | refine blk_drew ?_ | refine blk_alloc ?_ _)); exact BK8.out)) hb); have m3_ := Aside0.mk (blk_below (g := gb10) (o := .cells #[.slice Ao34 g16.length co34] 31 (0, 0)) (by ((with_reducible repeat (first | refine blk_drewN ?_ _ | refine blk_drew ?_ | refine blk_alloc ?_ _)); exact BK10.out)) hb); have m4_ := Aside0.mk (Kd.S_below (by ((with_reducible repeat (first | apply Kd.S_alloc | apply Kd.S_drewN | apply Kd.S_drew)); exact HO11.out)) hb); have m5_ := Aside0.mk (Kd.R_below (by ((with_reducible repeat (first | apply Kd.R_alloc | apply Kd.R_drewN | apply Kd.R_drew)); exact HO15.out)) hb); have m6_ := Aside0.mk (Kd.S_below (by ((with_reducible repeat (first | apply Kd.S_alloc | apply Kd.S_drewN | apply Kd.S_drew)); exact HO20.out)) hb); have m7_ := Aside0.mk (Kd.S_below (by ((with_reducible repeat (first | apply Kd.S_alloc | apply Kd.S_drewN | apply Kd.S_drew)); exact HO26.out)) hb); have m8_ := Aside0.mk (Kd.R_below (by ((with_reducible repeat (first | apply Kd.R_alloc | apply Kd.R_drewN | apply Kd.R_drew)); exact HO31.out)) hb); have m9_ := Aside0.mk (Kd.S_below (by ((with_reducible repeat (first | apply Kd.S_alloc | apply Kd.S_drewN | apply Kd.S_drew)); exact HO34.out)) hb); have m10_ := Aside0.mk (Kd.S_below (by ((with_reducible repeat (first | apply Kd.S_alloc | apply Kd.S_drewN | apply Kd.S_drew)); exact HO42.out)) hb); have m11_ := Aside0.mk (Kd.R_below (by ((with_reducible repeat (first | apply Kd.R_alloc | apply Kd.R_drewN | apply Kd.R_drew)); exact HO46.out)) hb); have m12_ := Aside0.mk (Kd.S_below (by ((with_reducible repeat (first | apply Kd.S_alloc | apply Kd.S_drewN | apply Kd.S_drew)); exact HO67.out)) hb); have m13_ := Aside0.mk (Kd.R_below (by ((with_reducible repeat (first | apply Kd.R_alloc | apply Kd.R_drewN | apply Kd.R_drew)); exact HO70.out)) hb); have m14_ := Aside0.mk (Kd.S_below (by ((with_reducible repeat (first | apply Kd.S_alloc | apply Kd.S_drewN | apply Kd.S_drew)); exact HO72.out)) hb); have mB_ := Aside0.mk (below_step (by (repeat (first | (with_reducible first | exact HB.out | apply below_alloc | apply pw_below_drewN | apply below_drew1 | refine below_set ?_ GE2.out | refine below_set ?_ GE6.out | refine below_set ?_ GE8.out | refine below_set ?_ GE10.out) | exact HB.out))) hb); have mL_ := Aside0.mk (by (repeat (first | exact HZ.out | (with_reducible first | apply sz_alloc | apply sz_drewN | apply sz_drew | apply sz_set))) : n22 ≤ _); obtain ⟨n23, hn_⟩ : ∃ n_, n_ = w3073.heap.size := ⟨_, rfl⟩; have mN_ := Aside0.mk (by rw [hn_]; exact Nat.le_trans mL_.out hb.size : n22 ≤ n23); have mZ_ := Aside0.mk (Nat.le_of_eq hn_ : n23 ≤ w3073.heap.size); have xBK15_ := Aside0.mk (hbox); have xGE15_ := Aside0.mk (by rw [hg_]; exact below_size (by (repeat (first | (with_reducible first | exact HB.out | apply below_alloc | apply pw_below_drewN | apply below_drew1 | refine below_set ?_ GE2.out | refine below_set ?_ GE6.out | refine below_set ?_ GE8.out | refine below_set ?_ GE10.out) | exact HB.out))) : w.heap.size ≤ gb15); have xHI15_ := Aside0.mk (⟨by rw [hg_]; exact mL_.out, by rw [hn_]; exact blk_lt hbox⟩ : n22 ≤ gb15 ∧ gb15 < n23); clear BK2 BK6 BK8 BK10 HO11 HO15 HO20 HO26 HO31 HO34 HO42 HO46 HO67 HO70 HO72 HB HZ; have BK2 := m0_; have BK6 := m1_; have BK8 := m2_; have BK10 := m3_; have HO11 := m4_; have HO15 := m5_; have HO20 := m6_; have HO26 := m7_; have HO31 := m8_; have HO34 := m9_; have HO42 := m10_; have HO46 := m11_; have HO67 := m12_; have HO70 := m13_; have HO72 := m14_; have HB := mB_; have HZ := mZ_; have HN23 := mN_; have BK15 := xBK15_; have GE15 := xGE15_; have HI15 := xHI15_; clear m0_ m1_ m2_ m3_ m4_ m5_ m6_ m7_ m8_ m9_ m10_ m11_ m12_ m13_ m14_ mB_ mN_ mZ_ mL_ xBK15_ xGE15_ xHI15_; (try clear hn_); clear hb hbox hg_; have hc74_0 := (blk_cell BK6.out 0).trans (show (#[.slice Ao20 s18.length co20] : Array Value)[0]? = some (.slice Ao20 s18.length co20) from rfl); have hf74_0 := blk_frozen BK6.out 0; have hna6_15 : gb6 ≠ gb15 := (by have h1_ := HI6.out; have h2_ := HI15.out; have q1_ := HN1.out; have q2_ := HN2.out; have q3_ := HN3.out; have q4_ := HN4.out; have q5_ := HN5.out; have q6_ := HN6.out; have q7_ := HN7.out; have q8_ := HN8.out; have q9_ := HN9.out; have q10_ := HN10.out; have q11_ := HN11.out; have q12_ := HN12.out; have q13_ := HN13.out; have q14_ := HN14.out; have q15_ := HN15.out; have q16_ := HN16.out; have q17_ := HN17.out; have q18_ := HN18.out; have q19_ := HN19.out; have q20_ := HN20.out; have q21_ := HN21.out; have q22_ := HN22.out; have q23_ := HN23.out; omega); have hnb6_15 := Ne.symm hna6_15; have hc75_0 := (blk_cell BK15.out 0).trans (show (#[.slice none 0 0] : Array Value)[0]? = some (.slice none 0 0) from rfl); have hf75_0 := blk_frozen BK15.out 0) | ((with_reducible refine gate_callee (f := 18) rfl ?_); refine goesL_ (some 104) rfl rfl Try.func18 (by kernel_rfl) rfl #[.agg #[.slice Ao72 g16.length co72], .agg #[.slice Ao20 s18.length co20]] rfl (by (try simp only [List.map_toArray, List.map_cons, List.map_nil]); first | done | rfl) ?_; (with_reducible refine (laws_eqMemory.calls k _ _ g16 _ _ s18 true _ ?sr0 ?sc0 ?sr1 ?sc1 E9.out).mono ?_); (case sr0 => exact (Kd.S_reads' (Kd.S_far (p := ⟨gb15, 0, none⟩) HO72.out (fun k_ hk_ => by show k_ ≠ gb15; have h2_ := HI15.out; have h3_ : n21 ≤ k_ ∧ k_ < n22 := hk_; clear hk_; have q1_ := HN1.out; have q2_ := HN2.out; have q3_ := HN3.out; have q4_ := HN4.out; have q5_ := HN5.out; have q6_ := HN6.out; have q7_ := HN7.out; have q8_ := HN8.out; have q9_ := HN9.out; have q10_ := HN10.out; have q11_ := HN11.out; have q12_ := HN12.out; have q13_ := HN13.out; have q14_ := HN14.out; have q15_ := HN15.out; have q16_ := HN16.out; have q17_ := HN17.out; have q18_ := HN18.out; have q19_ := HN19.out; have q20_ := HN20.out; have q21_ := HN21.out; have q22_ := HN22.out; have q23_ := HN23.out; omega) _)).2.2); (case sc0 => first | exact (Kd.S_reads' HO72.out).2.1 | exact Nat.le_trans (Nat.le_of_eq (Kd.S_reads' HO72.out).1.symm) (Kd.S_reads' HO72.out).2.1); (case sr1 => exact (Kd.S_reads' (Kd.S_far (p := ⟨gb15, 0, none⟩) HO20.out (fun k_ hk_ => by show k_ ≠ gb15; have h2_ := HI15.out; have h3_ : n5 ≤ k_ ∧ k_ < n6 := hk_; clear hk_; have q1_ := HN1.out; have q2_ := HN2.out; have q3_ := HN3.out; have q4_ := HN4.out; have q5_ := HN5.out; have q6_ := HN6.out; have q7_ := HN7.out; have q8_ := HN8.out; have q9_ := HN9.out; have q10_ := HN10.out; have q11_ := HN11.out; have q12_ := HN12.out; have q13_ := HN13.out; have q14_ := HN14.out; have q15_ := HN15.out; have q16_ := HN16.out; have q17_ := HN17.out; have q18_ := HN18.out; have q19_ := HN19.out; have q20_ := HN20.out; have q21_ := HN21.out; have q22_ := HN22.out; have q23_ := HN23.out; omega) _)).2.2); (case sc1 => first | exact (Kd.S_reads' HO20.out).2.1 | exact Nat.le_trans (Nat.le_of_eq (Kd.S_reads' HO20.out).1.symm) (Kd.S_reads' HO20.out).2.1); rintro e w1097 ⟨rfl, hb⟩; refine ⟨_, rfl, ?_⟩; have m0_ := Aside0.mk (blk_below (g := gb2) (o := .cells #[.slice A0_0 l0_0.length c0_0] 24 (0, 0)) (by ((with_reducible repeat (first | refine blk_drewN ?_ _ | refine blk_drew ?_ | refine blk_alloc ?_ _)); refine blk_far ?_ (by show gb2 ≠ gb15; have h1_ := HI2.out; have h2_ := HI15.out; have q1_ := HN1.out; have q2_ := HN2.out; have q3_ := HN3.out; have q4_ := HN4.out; have q5_ := HN5.out; have q6_ := HN6.out; have q7_ := HN7.out; have q8_ := HN8.out; have q9_ := HN9.out; have q10_ := HN10.out; have q11_ := HN11.out; have q12_ := HN12.out; have q13_ := HN13.out; have q14_ := HN14.out; have q15_ := HN15.out; have q16_ := HN16.out; have q17_ := HN17.out; have q18_ := HN18.out; have q19_ := HN19.out; have q20_ := HN20.out; have q21_ := HN21.out; have q22_ := HN22.out; have q23_ := HN23.out; omega) _; (with_reducible repeat (first | refine blk_drewN ?_ _ | refine blk_drew ?_ | refine blk_alloc ?_ _)); exact BK2.out)) hb); have m1_ := Aside0.mk (blk_below (g := gb6) (o := .cells #[.slice Ao20 s18.length co20] 31 (0, 0)) (by ((with_reducible repeat (first | refine blk_drewN ?_ _ | refine blk_drew ?_ | refine blk_alloc ?_ _)); refine blk_far ?_ (by show gb6 ≠ gb15; have h1_ := HI6.out; have h2_ := HI15.out; have q1_ := HN1.out; have q2_ := HN2.out; have q3_ := HN3.out; have q4_ := HN4.out; have q5_ := HN5.out; have q6_ := HN6.out; have q7_ := HN7.out; have q8_ := HN8.out; have q9_ := HN9.out; have q10_ := HN10.out; have q11_ := HN11.out; have q12_ := HN12.out; have q13_ := HN13.out; have q14_ := HN14.out; have q15_ := HN15.out; have q16_ := HN16.out; have q17_ := HN17.out; have q18_ := HN18.out; have q19_ := HN19.out; have q20_ := HN20.out; have q21_ := HN21.out; have q22_ := HN22.out; have q23_ := HN23.out; omega) _; (with_reducible repeat (first | refine blk_drewN ?_ _ | refine blk_drew ?_ | refine blk_alloc ?_ _)); exact BK6.out)) hb); have m2_ := Aside0.mk (blk_below (g := gb8) (o := .cells #[.slice Ao26 t9.length co26] 31 (0, 0)) (by ((with_reducible repeat (first | refine blk_drewN ?_ _ | refine blk_drew ?_ | refine blk_alloc ?_ _)); refine blk_far ?_ (by show gb8 ≠ gb15; have h1_ := HI8.out; have h2_ := HI15.out; have q1_ := HN1.out; have q2_ := HN2.out; have q3_ := HN3.out; have q4_ := HN4.out; have q5_ := HN5.out; have q6_ := HN6.out; have q7_ := HN7.out; have q8_ := HN8.out; have q9_ := HN9.out; have q10_ := HN10.out; have q11_ := HN11.out; have q12_ := HN12.out; have q13_ := HN13.out; have q14_ := HN14.out; have q15_ := HN15.out; have q16_ := HN16.out; have q17_ := HN17.out; have q18_ := HN18.out; have q19_ := HN19.out; have q20_ := HN20.out; have q21_ := HN21.out; have q22_ := HN22.out; have q23_ := HN23.out; omega) _; (with_reducible repeat (first | refine blk_drewN ?_ _ | refine blk_drew ?_ | refine blk_alloc ?_ _)); exact BK8.out)) hb); have m3_ := Aside0.mk (blk_below (g := gb10) (o := .cells #[.slice Ao34 g16.length co34] 31 (0, 0)) (by ((with_reducible repeat (first | refine blk_drewN ?_ _ | refine blk_drew ?_ | refine blk_alloc ?_ _)); refine blk_far ?_ (by show gb10 ≠ gb15; have h1_ := HI10.out; have h2_ := HI15.out; have q1_ := HN1.out; have q2_ := HN2.out; have q3_ := HN3.out; have q4_ := HN4.out; have q5_ := HN5.out; have q6_ := HN6.out; have q7_ := HN7.out; have q8_ := HN8.out; have q9_ := HN9.out; have q10_ := HN10.out; have q11_ := HN11.out; have q12_ := HN12.out; have q13_ := HN13.out; have q14_ := HN14.out; have q15_ := HN15.out; have q16_ := HN16.out; have q17_ := HN17.out; have q18_ := HN18.out; have q19_ := HN19.out; have q20_ := HN20.out; have q21_ := HN21.out; have q22_ := HN22.out; have q23_ := HN23.out; omega) _; (with_reducible repeat (first | refine blk_drewN ?_ _ | refine blk_drew ?_ | refine blk_alloc ?_ _)); exact BK10.out)) hb); have m4_ := Aside0.mk (blk_below (g := gb15) (o := .cells #[.slice Ao72 g16.length co72] 31 (0, 0)) (by ((with_reducible repeat (first | refine blk_drewN ?_ _ | refine blk_drew ?_ | refine blk_alloc ?_ _)); refine blk_put (cs := #[.slice none 0 0]) ?_ 0 _ rfl; (with_reducible repeat (first | refine blk_drewN ?_ _ | refine blk_drew ?_ | refine blk_alloc ?_ _)); exact BK15.out)) hb); have m5_ := Aside0.mk (Kd.S_below (by ((with_reducible repeat (first | apply Kd.S_alloc | apply Kd.S_drewN | apply Kd.S_drew)); exact Kd.S_far (p := ⟨gb15, 0, none⟩) HO11.out (fun k_ hk_ => by show k_ ≠ gb15; have h2_ := HI15.out; have h3_ : n3 ≤ k_ ∧ k_ < n4 := hk_; clear hk_; have q1_ := HN1.out; have q2_ := HN2.out; have q3_ := HN3.out; have q4_ := HN4.out; have q5_ := HN5.out; have q6_ := HN6.out; have q7_ := HN7.out; have q8_ := HN8.out; have q9_ := HN9.out; have q10_ := HN10.out; have q11_ := HN11.out; have q12_ := HN12.out; have q13_ := HN13.out; have q14_ := HN14.out; have q15_ := HN15.out; have q16_ := HN16.out; have q17_ := HN17.out; have q18_ := HN18.out; have q19_ := HN19.out; have q20_ := HN20.out; have q21_ := HN21.out; have q22_ := HN22.out; have q23_ := HN23.out; omega) _)) hb); have m6_ := Aside0.mk (Kd.R_below (by ((with_reducible repeat (first | apply Kd.R_alloc | apply Kd.R_drewN | apply Kd.R_drew)); exact Kd.R_far (p := ⟨gb15, 0, none⟩) HO15.out (fun k_ hk_ => by show k_ ≠ gb15; have h2_ := HI15.out; have h3_ : n4 ≤ k_ ∧ k_ < n5 := hk_; clear hk_; have q1_ := HN1.out; have q2_ := HN2.out; have q3_ := HN3.out; have q4_ := HN4.out; have q5_ := HN5.out; have q6_ := HN6.out; have q7_ := HN7.out; have q8_ := HN8.out; have q9_ := HN9.out; have q10_ := HN10.out; have q11_ := HN11.out; have q12_ := HN12.out; have q13_ := HN13.out; have q14_ := HN14.out; have q15_ := HN15.out; have q16_ := HN16.out; have q17_ := HN17.out; have q18_ := HN18.out; have q19_ := HN19.out; have q20_ := HN20.out; have q21_ := HN21.out; have q22_ := HN22.out; have q23_ := HN23.out; omega) _)) hb); have m7_ := Aside0.mk (Kd.S_below (by ((with_reducible repeat (first | apply Kd.S_alloc | apply Kd.S_drewN | apply Kd.S_drew)); exact Kd.S_far (p := ⟨gb15, 0, none⟩) HO20.out (fun k_ hk_ => by show k_ ≠ gb15; have h2_ := HI15.out; have h3_ : n5 ≤ k_ ∧ k_ < n6 := hk_; clear hk_; have q1_ := HN1.out; have q2_ := HN2.out; have q3_ := HN3.out; have q4_ := HN4.out; have q5_ := HN5.out; have q6_ := HN6.out; have q7_ := HN7.out; have q8_ := HN8.out; have q9_ := HN9.out; have q10_ := HN10.out; have q11_ := HN11.out; have q12_ := HN12.out; have q13_ := HN13.out; have q14_ := HN14.out; have q15_ := HN15.out; have q16_ := HN16.out; have q17_ := HN17.out; have q18_ := HN18.out; have q19_ := HN19.out; have q20_ := HN20.out; have q21_ := HN21.out; have q22_ := HN22.out; have q23_ := HN23.out; omega) _)) hb); have m8_ := Aside0.mk (Kd.S_below (by ((with_reducible repeat (first | apply Kd.S_alloc | apply Kd.S_drewN | apply Kd.S_drew)); exact Kd.S_far (p := ⟨gb15, 0, none⟩) HO26.out (fun k_ hk_ => by show k_ ≠ gb15; have h2_ := HI15.out; have h3_ : n7 ≤ k_ ∧ k_ < n8 := hk_; clear hk_; have q1_ := HN1.out; have q2_ := HN2.out; have q3_ := HN3.out; have q4_ := HN4.out; have q5_ := HN5.out; have q6_ := HN6.out; have q7_ := HN7.out; have q8_ := HN8.out; have q9_ := HN9.out; have q10_ := HN10.out; have q11_ := HN11.out; have q12_ := HN12.out; have q13_ := HN13.out; have q14_ := HN14.out; have q15_ := HN15.out; have q16_ := HN16.out; have q17_ := HN17.out; have q18_ := HN18.out; have q19_ := HN19.out; have q20_ := HN20.out; have q21_ := HN21.out; have q22_ := HN22.out; have q23_ := HN23.out; omega) _)) hb); have m9_ := Aside0.mk (Kd.R_below (by ((with_reducible repeat (first | apply Kd.R_alloc | apply Kd.R_drewN | apply Kd.R_drew)); exact Kd.R_far (p := ⟨gb15, 0, none⟩) HO31.out (fun k_ hk_ => by show k_ ≠ gb15; have h2_ := HI15.out; have h3_ : n9 ≤ k_ ∧ k_ < n10 := hk_; clear hk_; have q1_ := HN1.out; have q2_ := HN2.out; have q3_ := HN3.out; have q4_ := HN4.out; have q5_ := HN5.out; have q6_ := HN6.out; have q7_ := HN7.out; have q8_ := HN8.out; have q9_ := HN9.out; have q10_ := HN10.out; have q11_ := HN11.out; have q12_ := HN12.out; have q13_ := HN13.out; have q14_ := HN14.out; have q15_ := HN15.out; have q16_ := HN16.out; have q17_ := HN17.out; have q18_ := HN18.out; have q19_ := HN19.out; have q20_ := HN20.out; have q21_ := HN21.out; have q22_ := HN22.out; have q23_ := HN23.out; omega) _)) hb); have m10_ := Aside0.mk (Kd.S_below (by ((with_reducible repeat (first | apply Kd.S_alloc | apply Kd.S_drewN | apply Kd.S_drew)); exact Kd.S_far (p := ⟨gb15, 0, none⟩) HO34.out (fun k_ hk_ => by show k_ ≠ gb15; have h2_ := HI15.out; have h3_ : n10 ≤ k_ ∧ k_ < n11 := hk_; clear hk_; have q1_ := HN1.out; have q2_ := HN2.out; have q3_ := HN3.out; have q4_ := HN4.out; have q5_ := HN5.out; have q6_ := HN6.out; have q7_ := HN7.out; have q8_ := HN8.out; have q9_ := HN9.out; have q10_ := HN10.out; have q11_ := HN11.out; have q12_ := HN12.out; have q13_ := HN13.out; have q14_ := HN14.out; have q15_ := HN15.out; have q16_ := HN16.out; have q17_ := HN17.out; have q18_ := HN18.out; have q19_ := HN19.out; have q20_ := HN20.out; have q21_ := HN21.out; have q22_ := HN22.out; have q23_ := HN23.out; omega) _)) hb); have m11_ := Aside0.mk (Kd.S_below (by ((with_reducible repeat (first | apply Kd.S_alloc | apply Kd.S_drewN | apply Kd.S_drew)); exact Kd.S_far (p := ⟨gb15, 0, none⟩) HO42.out (fun k_ hk_ => by show k_ ≠ gb15; have h2_ := HI15.out; have h3_ : n13 ≤ k_ ∧ k_ < n14 := hk_; clear hk_; have q1_ := HN1.out; have q2_ := HN2.out; have q3_ := HN3.out; have q4_ := HN4.out; have q5_ := HN5.out; have q6_ := HN6.out; have q7_ := HN7.out; have q8_ := HN8.out; have q9_ := HN9.out; have q10_ := HN10.out; have q11_ := HN11.out; have q12_ := HN12.out; have q13_ := HN13.out; have q14_ := HN14.out; have q15_ := HN15.out; have q16_ := HN16.out; have q17_ := HN17.out; have q18_ := HN18.out; have q19_ := HN19.out; have q20_ := HN20.out; have q21_ := HN21.out; have q22_ := HN22.out; have q23_ := HN23.out; omega) _)) hb); have m12_ := Aside0.mk (Kd.R_below (by ((with_reducible repeat (first | apply Kd.R_alloc | apply Kd.R_drewN | apply Kd.R_drew)); exact Kd.R_far (p := ⟨gb15, 0, none⟩) HO46.out (fun k_ hk_ => by show k_ ≠ gb15; have h2_ := HI15.out; have h3_ : n15 ≤ k_ ∧ k_ < n16 := hk_; clear hk_; have q1_ := HN1.out; have q2_ := HN2.out; have q3_ := HN3.out; have q4_ := HN4.out; have q5_ := HN5.out; have q6_ := HN6.out; have q7_ := HN7.out; have q8_ := HN8.out; have q9_ := HN9.out; have q10_ := HN10.out; have q11_ := HN11.out; have q12_ := HN12.out; have q13_ := HN13.out; have q14_ := HN14.out; have q15_ := HN15.out; have q16_ := HN16.out; have q17_ := HN17.out; have q18_ := HN18.out; have q19_ := HN19.out; have q20_ := HN20.out; have q21_ := HN21.out; have q22_ := HN22.out; have q23_ := HN23.out; omega) _)) hb); have m13_ := Aside0.mk (Kd.S_below (by ((with_reducible repeat (first | apply Kd.S_alloc | apply Kd.S_drewN | apply Kd.S_drew)); exact Kd.S_far (p := ⟨gb15, 0, none⟩) HO67.out (fun k_ hk_ => by show k_ ≠ gb15; have h2_ := HI15.out; have h3_ : n19 ≤ k_ ∧ k_ < n20 := hk_; clear hk_; have q1_ := HN1.out; have q2_ := HN2.out; have q3_ := HN3.out; have q4_ := HN4.out; have q5_ := HN5.out; have q6_ := HN6.out; have q7_ := HN7.out; have q8_ := HN8.out; have q9_ := HN9.out; have q10_ := HN10.out; have q11_ := HN11.out; have q12_ := HN12.out; have q13_ := HN13.out; have q14_ := HN14.out; have q15_ := HN15.out; have q16_ := HN16.out; have q17_ := HN17.out; have q18_ := HN18.out; have q19_ := HN19.out; have q20_ := HN20.out; have q21_ := HN21.out; have q22_ := HN22.out; have q23_ := HN23.out; omega) _)) hb); have m14_ := Aside0.mk (Kd.R_below (by ((with_reducible repeat (first | apply Kd.R_alloc | apply Kd.R_drewN | apply Kd.R_drew)); exact Kd.R_far (p := ⟨gb15, 0, none⟩) HO70.out (fun k_ hk_ => by show k_ ≠ gb15; have h2_ := HI15.out; have h3_ : n20 ≤ k_ ∧ k_ < n21 := hk_; clear hk_; have q1_ := HN1.out; have q2_ := HN2.out; have q3_ := HN3.out; have q4_ := HN4.out; have q5_ := HN5.out; have q6_ := HN6.out; have q7_ := HN7.out; have q8_ := HN8.out; have q9_ := HN9.out; have q10_ := HN10.out; have q11_ := HN11.out; have q12_ := HN12.out; have q13_ := HN13.out; have q14_ := HN14.out; have q15_ := HN15.out; have q16_ := HN16.out; have q17_ := HN17.out; have q18_ := HN18.out; have q19_ := HN19.out; have q20_ := HN20.out; have q21_ := HN21.out; have q22_ := HN22.out; have q23_ := HN23.out; omega) _)) hb); have m15_ := Aside0.mk (Kd.S_below (by ((with_reducible repeat (first | apply Kd.S_alloc | apply Kd.S_drewN | apply Kd.S_drew)); exact Kd.S_far (p := ⟨gb15, 0, none⟩) HO72.out (fun k_ hk_ => by show k_ ≠ gb15; have h2_ := HI15.out; have h3_ : n21 ≤ k_ ∧ k_ < n22 := hk_; clear hk_; have q1_ := HN1.out; have q2_ := HN2.out; have q3_ := HN3.out; have q4_ := HN4.out; have q5_ := HN5.out; have q6_ := HN6.out; have q7_ := HN7.out; have q8_ := HN8.out; have q9_ := HN9.out; have q10_ := HN10.out; have q11_ := HN11.out; have q12_ := HN12.out; have q13_ := HN13.out; have q14_ := HN14.out; have q15_ := HN15.out; have q16_ := HN16.out; have q17_ := HN17.out; have q18_ := HN18.out; have q19_ := HN19.out; have q20_ := HN20.out; have q21_ := HN21.out; have q22_ := HN22.out; have q23_ := HN23.out; omega) _)) hb); have mB_ := Aside0.mk (below_step (by (repeat (first | (with_reducible first | exact HB.out | apply below_alloc | apply pw_below_drewN | apply below_drew1 | refine below_set ?_ GE2.out | refine below_set ?_ GE6.out | refine below_set ?_ GE8.out | refine below_set ?_ GE10.out | refine below_set ?_ GE15.out) | exact HB.out))) hb); have mL_ := Aside0.mk (sz_set (p := ⟨gb15, 0, none⟩) (v := .slice Ao72 g16.length co72) HZ.out); obtain ⟨n24, hn_⟩ : ∃ n_, n_ = w1097.heap.size := ⟨_, rfl⟩; have mN_ := Aside0.mk (by rw [hn_]; exact Nat.le_trans mL_.out hb.size : n23 ≤ n24); have mZ_ := Aside0.mk (Nat.le_of_eq hn_ : n24 ≤ w1097.heap.size); clear BK2 BK6 BK8 BK10 BK15 HO11 HO15 HO20 HO26 HO31 HO34 HO42 HO46 HO67 HO70 HO72 HB HZ; have BK2 := m0_; have BK6 := m1_; have BK8 := m2_; have BK10 := m3_; have BK15 := m4_; have HO11 := m5_; have HO15 := m6_; have HO20 := m7_; have HO26 := m8_; have HO31 := m9_; have HO34 := m10_; have HO42 := m11_; have HO46 := m12_; have HO67 := m13_; have HO70 := m14_; have HO72 := m15_; have HB := mB_; have HZ := mZ_; have HN24 := mN_; clear m0_ m1_ m2_ m3_ m4_ m5_ m6_ m7_ m8_ m9_ m10_ m11_ m12_ m13_ m14_ m15_ mB_ mN_ mZ_ mL_; (try clear hn_); clear hb; have hc77_0 := (blk_cell BK10.out 0).trans (show (#[.slice Ao34 g16.length co34] : Array Value)[0]? = some (.slice Ao34 g16.length co34) from rfl); have hf77_0 := blk_frozen BK10.out 0) | ((with_reducible refine gate_callee (f := 37) rfl ?_); refine goesL_ (some 113) rfl rfl Try.func37 (by kernel_rfl) rfl #[.agg #[.slice Ao34 y60.length co34], .int .i64 1] rfl (by (try simp only [List.map_toArray, List.map_cons, List.map_nil]); first | done | (rw [show g16.length = y60.length from (Kd.S_reads' HO34.out).1] <;> rfl) | rfl) ?_; (with_reducible refine (laws_heldMemory.calls k _ _ y60 1 m59 _ ?sr0 ?sc0 E18.out).mono ?_); (case sr0 => repeat (first | exact (Kd.S_reads' HO34.out).2.2 | (with_reducible refine Kd.C_alloc ?_ _) | (with_reducible refine Kd.C_drewN ?_ _) | (with_reducible refine Kd.C_drew ?_))); (case sc0 => first | exact (Kd.S_reads' HO34.out).2.1 | exact Nat.le_trans (Nat.le_of_eq (Kd.S_reads' HO34.out).1.symm) (Kd.S_reads' HO34.out).2.1); rintro e w1100 ⟨rfl, hb⟩; refine ⟨_, rfl, ?_⟩; have m0_ := Aside0.mk (blk_below (g := gb2) (o := .cells #[.slice A0_0 l0_0.length c0_0] 24 (0, 0)) (by ((with_reducible repeat (first | refine blk_drewN ?_ _ | refine blk_drew ?_ | refine blk_alloc ?_ _)); exact BK2.out)) hb); have m1_ := Aside0.mk (blk_below (g := gb6) (o := .cells #[.slice Ao20 s18.length co20] 31 (0, 0)) (by ((with_reducible repeat (first | refine blk_drewN ?_ _ | refine blk_drew ?_ | refine blk_alloc ?_ _)); exact BK6.out)) hb); have m2_ := Aside0.mk (blk_below (g := gb8) (o := .cells #[.slice Ao26 t9.length co26] 31 (0, 0)) (by ((with_reducible repeat (first | refine blk_drewN ?_ _ | refine blk_drew ?_ | refine blk_alloc ?_ _)); exact BK8.out)) hb); have m3_ := Aside0.mk (blk_below (g := gb10) (o := .cells #[.slice Ao34 g16.length co34] 31 (0, 0)) (by ((with_reducible repeat (first | refine blk_drewN ?_ _ | refine blk_drew ?_ | refine blk_alloc ?_ _)); exact BK10.out)) hb); have m4_ := Aside0.mk (blk_below (g := gb15) (o := .cells #[.slice Ao72 g16.length co72] 31 (0, 0)) (by ((with_reducible repeat (first | refine blk_drewN ?_ _ | refine blk_drew ?_ | refine blk_alloc ?_ _)); exact BK15.out)) hb); have m5_ := Aside0.mk (Kd.S_below (by ((with_reducible repeat (first | apply Kd.S_alloc | apply Kd.S_drewN | apply Kd.S_drew)); exact HO11.out)) hb); have m6_ := Aside0.mk (Kd.R_below (by ((with_reducible repeat (first | apply Kd.R_alloc | apply Kd.R_drewN | apply Kd.R_drew)); exact HO15.out)) hb); have m7_ := Aside0.mk (Kd.S_below (by ((with_reducible repeat (first | apply Kd.S_alloc | apply Kd.S_drewN | apply Kd.S_drew)); exact HO20.out)) hb); have m8_ := Aside0.mk (Kd.S_below (by ((with_reducible repeat (first | apply Kd.S_alloc | apply Kd.S_drewN | apply Kd.S_drew)); exact HO26.out)) hb); have m9_ := Aside0.mk (Kd.R_below (by ((with_reducible repeat (first | apply Kd.R_alloc | apply Kd.R_drewN | apply Kd.R_drew)); exact HO31.out)) hb); have m10_ := Aside0.mk (Kd.S_below (by ((with_reducible repeat (first | apply Kd.S_alloc | apply Kd.S_drewN | apply Kd.S_drew)); exact HO34.out)) hb); have m11_ := Aside0.mk (Kd.S_below (by ((with_reducible repeat (first | apply Kd.S_alloc | apply Kd.S_drewN | apply Kd.S_drew)); exact HO42.out)) hb); have m12_ := Aside0.mk (Kd.R_below (by ((with_reducible repeat (first | apply Kd.R_alloc | apply Kd.R_drewN | apply Kd.R_drew)); exact HO46.out)) hb); have m13_ := Aside0.mk (Kd.S_below (by ((with_reducible repeat (first | apply Kd.S_alloc | apply Kd.S_drewN | apply Kd.S_drew)); exact HO67.out)) hb); have m14_ := Aside0.mk (Kd.R_below (by ((with_reducible repeat (first | apply Kd.R_alloc | apply Kd.R_drewN | apply Kd.R_drew)); exact HO70.out)) hb); have m15_ := Aside0.mk (Kd.S_below (by ((with_reducible repeat (first | apply Kd.S_alloc | apply Kd.S_drewN | apply Kd.S_drew)); exact HO72.out)) hb); have mB_ := Aside0.mk (below_step (by (repeat (first | (with_reducible first | exact HB.out | apply below_alloc | apply pw_below_drewN | apply below_drew1 | refine below_set ?_ GE2.out | refine below_set ?_ GE6.out | refine below_set ?_ GE8.out | refine below_set ?_ GE10.out | refine below_set ?_ GE15.out) | exact HB.out))) hb); have mL_ := Aside0.mk (by (repeat (first | exact HZ.out | (with_reducible first | apply sz_alloc | apply sz_drewN | apply sz_drew | apply sz_set))) : n24 ≤ _); obtain ⟨n25, hn_⟩ : ∃ n_, n_ = w1100.heap.size := ⟨_, rfl⟩; have mN_ := Aside0.mk (by rw [hn_]; exact Nat.le_trans mL_.out hb.size : n24 ≤ n25); have mZ_ := Aside0.mk (Nat.le_of_eq hn_ : n25 ≤ w1100.heap.size); clear BK2 BK6 BK8 BK10 BK15 HO11 HO15 HO20 HO26 HO31 HO34 HO42 HO46 HO67 HO70 HO72 HB HZ; have BK2 := m0_; have BK6 := m1_; have BK8 := m2_; have BK10 := m3_; have BK15 := m4_; have HO11 := m5_; have HO15 := m6_; have HO20 := m7_; have HO26 := m8_; have HO31 := m9_; have HO34 := m10_; have HO42 := m11_; have HO46 := m12_; have HO67 := m13_; have HO70 := m14_; have HO72 := m15_; have HB := mB_; have HZ := mZ_; have HN25 := mN_; clear m0_ m1_ m2_ m3_ m4_ m5_ m6_ m7_ m8_ m9_ m10_ m11_ m12_ m13_ m14_ m15_ mB_ mN_ mZ_ mL_; (try clear hn_); clear hb) | (go_at_call 18; (with_reducible refine (laws_eqMemory.calls k _ _ g16 _ _ s18 true _ ?sr0 ?sc0 ?sr1 ?sc1 E9.out).mono ?_); (case sr0 => repeat (first | exact (Kd.S_reads' HO34.out).2.2 | (with_reducible refine Kd.C_alloc ?_ _) | (with_reducible refine Kd.C_drewN ?_ _) | (with_reducible refine Kd.C_drew ?_))); (case sc0 => first | exact (Kd.S_reads' HO34.out).2.1 | exact Nat.le_trans (Nat.le_of_eq (Kd.S_reads' HO34.out).1.symm) (Kd.S_reads' HO34.out).2.1); (case sr1 => repeat (first | exact (Kd.S_reads' HO20.out).2.2 | (with_reducible refine Kd.C_alloc ?_ _) | (with_reducible refine Kd.C_drewN ?_ _) | (with_reducible refine Kd.C_drew ?_))); (case sc1 => first | exact (Kd.S_reads' HO20.out).2.1 | exact Nat.le_trans (Nat.le_of_eq (Kd.S_reads' HO20.out).1.symm) (Kd.S_reads' HO20.out).2.1); rintro e w1072 ⟨rfl, hb⟩; have m0_ := Aside0.mk (blk_below (g := gb2) (o := .cells #[.slice A0_0 l0_0.length c0_0] 24 (0, 0)) (by ((with_reducible repeat (first | refine blk_drewN ?_ _ | refine blk_drew ?_ | refine blk_alloc ?_ _)); exact BK2.out)) hb); have m1_ := Aside0.mk (blk_below (g := gb6) (o := .cells #[.slice Ao20 s18.length co20] 31 (0, 0)) (by ((with_reducible repeat (first | refine blk_drewN ?_ _ | refine blk_drew ?_ | refine blk_alloc ?_ _)); exact BK6.out)) hb); have m2_ := Aside0.mk (blk_below (g := gb8) (o := .cells #[.slice Ao26 t9.length co26] 31 (0, 0)) (by ((with_reducible repeat (first | refine blk_drewN ?_ _ | refine blk_drew ?_ | refine blk_alloc ?_ _)); exact BK8.out)) hb); have m3_ := Aside0.mk (blk_below (g := gb10) (o := .cells #[.slice Ao34 g16.length co34] 31 (0, 0)) (by ((with_reducible repeat (first | refine blk_drewN ?_ _ | refine blk_drew ?_ | refine blk_alloc ?_ _)); exact BK10.out)) hb); have m4_ := Aside0.mk (Kd.S_below (by ((with_reducible repeat (first | apply Kd.S_alloc | apply Kd.S_drewN | apply Kd.S_drew)); exact HO11.out)) hb); have m5_ := Aside0.mk (Kd.R_below (by ((with_reducible repeat (first | apply Kd.R_alloc | apply Kd.R_drewN | apply Kd.R_drew)); exact HO15.out)) hb); have m6_ := Aside0.mk (Kd.S_below (by ((with_reducible repeat (first | apply Kd.S_alloc | apply Kd.S_drewN | apply Kd.S_drew)); exact HO20.out)) hb); have m7_ := Aside0.mk (Kd.S_below (by ((with_reducible repeat (first | apply Kd.S_alloc | apply Kd.S_drewN | apply Kd.S_drew)); exact HO26.out)) hb); have m8_ := Aside0.mk (Kd.R_below (by ((with_reducible repeat (first | apply Kd.R_alloc | apply Kd.R_drewN | apply Kd.R_drew)); exact HO31.out)) hb); have m9_ := Aside0.mk (Kd.S_below (by ((with_reducible repeat (first | apply Kd.S_alloc | apply Kd.S_drewN | apply Kd.S_drew)); exact HO34.out)) hb); have m10_ := Aside0.mk (Kd.S_below (by ((with_reducible repeat (first | apply Kd.S_alloc | apply Kd.S_drewN | apply Kd.S_drew)); exact HO42.out)) hb); have m11_ := Aside0.mk (Kd.R_below (by ((with_reducible repeat (first | apply Kd.R_alloc | apply Kd.R_drewN | apply Kd.R_drew)); exact HO46.out)) hb); have mB_ := Aside0.mk (below_step (by (repeat (first | (with_reducible first | exact HB.out | apply below_alloc | apply pw_below_drewN | apply below_drew1 | refine below_set ?_ GE2.out | refine below_set ?_ GE6.out | refine below_set ?_ GE8.out | refine below_set ?_ GE10.out) | exact HB.out))) hb); have mL_ := Aside0.mk (by (repeat (first | exact HZ.out | (with_reducible first | apply sz_alloc | apply sz_drewN | apply sz_drew | apply sz_set))) : n17 ≤ _); obtain ⟨n18, hn_⟩ : ∃ n_, n_ = w1072.heap.size := ⟨_, rfl⟩; have mN_ := Aside0.mk (by rw [hn_]; exact Nat.le_trans mL_.out hb.size : n17 ≤ n18); have mZ_ := Aside0.mk (Nat.le_of_eq hn_ : n18 ≤ w1072.heap.size); clear BK2 BK6 BK8 BK10 HO11 HO15 HO20 HO26 HO31 HO34 HO42 HO46 HB HZ; have BK2 := m0_; have BK6 := m1_; have BK8 := m2_; have BK10 := m3_; have HO11 := m4_; have HO15 := m5_; have HO20 := m6_; have HO26 := m7_; have HO31 := m8_; have HO34 := m9_; have HO42 := m10_; have HO46 := m11_; have HB := mB_; have HZ := mZ_; have HN18 := mN_; clear m0_ m1_ m2_ m3_ m4_ m5_ m6_ m7_ m8_ m9_ m10_ m11_ mB_ mN_ mZ_ mL_; (try clear hn_); clear hb; have hc58_0 := (blk_cell BK10.out 0).trans (show (#[.slice Ao34 g16.length co34] : Array Value)[0]? = some (.slice Ao34 g16.length co34) from rfl); have hf58_0 := blk_frozen BK10.out 0))
  go_ret
  exact ⟨rfl, by (repeat (first | (with_reducible first | exact HB.out | apply below_alloc | apply pw_below_drewN | apply below_drew1 | refine below_set ?_ GE2.out | refine below_set ?_ GE6.out | refine below_set ?_ GE8.out | refine below_set ?_ GE10.out | refine below_set ?_ GE15.out) | exact HB.out))⟩
end Go.Proofs.Ytaoffejflichjaa.P
end
section
namespace Go.Proofs.Ytaoffejflichjaa.P
open Go.RowKit Go.Deep Go.Joins Go.WideShapes Go.ChangeShapes Go.ChangeAt Go.Proofs.YtaoffejflichjaaW.PrintWords Go.Proofs.YtaoffejflichjaaW.PrintLast Go.Proofs.YtaoffejflichjaaW.PrintMore
set_option linter.unusedVariables false
set_option linter.unusedSectionVars false
section
variable {H : Type} {enc : TypeId × Value → H} {P : Program} {w : World} {base : Nat} {spare : Nat → Bool} {held : Bool}
theorem opn_int {t : TypeId} {k : IntKind} {n : Nat} {cs : List Value} {x : DataW H × List MemPlace} (ht : P.underlying t = some (.int k)) (h : DataW.trod enc P w base spare held n t cs = some x) :
    ∃ a : Int, (Kd.int k).K w a cs ∧ (Lit.int k a).wf = true := by
  obtain ⟨a, e, _, hw⟩ := DataW.trod_int ht h
  exact ⟨a, e, hw⟩
theorem opn_slice {α : Type} [Inhabited α] {d : Kd α} {Q : α → Prop} {t e : TypeId} {n : Nat} {cs : List Value} {x : DataW H × List MemPlace} (ht : P.underlying t = some (.slice e)) (hsz : P.cellsOf e = d.sz)
    (hel : ∀ n cs y, DataW.trod enc P w base spare held n e cs = some y → ∃ a, d.K w a cs ∧ Q a) (h : DataW.trod enc P w base spare held n t cs = some x) :
    ∃ l : List α, (Kd.slice e d).K w l cs ∧ (l.length ≤ 9223372036854775807 ∧ ∀ a ∈ l, Q a) := by
  rcases open_slice ht h with ⟨rfl, _⟩ | ⟨a, len, cap, m, n', D, Pl, rfl, hb, hl, hm, hmm, rfl, hx⟩
  · exact ⟨[], ⟨none, 0, rfl, Nat.le_refl _, Kd.C_nil d w⟩, by simp, by simp⟩
  · have hlm : len ≤ m := by rw [hmm]; split <;> omega
    have hmax : len ≤ 9223372036854775807 := by simp only [maxLen] at hm; omega
    have each : ∀ i, i < len → ∃ y : α, (∃ c, c.length = d.sz ∧ d.K w y c ∧ ∀ j u, c[j]? = some u → w.cell? (a.add (i * d.sz + j)) = some u) ∧ Q y := by
      intro i hi
      obtain ⟨cs', h1, h2⟩ := hx i (by omega)
      obtain ⟨y, hK, hQ⟩ := hel _ _ _ h2
      obtain ⟨_, hlen, hc⟩ := World.cells?_some h1
      rw [hsz] at hlen hc
      refine ⟨y, ⟨cs', hlen, hK, fun j u hu => ?_⟩, hQ⟩
      have hj : j < d.sz := by rw [← hlen]; exact (List.getElem?_eq_some_iff.1 hu).1
      rw [← hu, ← hc j hj, Addr.add_add]
    obtain ⟨f, hf⟩ := choose_lt each
    have hlen : ((List.range len).map f).length = len := by simp
    refine ⟨(List.range len).map f, ⟨some a, cap, by rw [hlen], by rw [hlen]; exact hl, rfl, by rw [hlen]; exact hmax, fun _ => ⟨a, rfl, fun j p hj => ?_⟩⟩, by rw [hlen]; exact hmax, fun y hy => ?_⟩
    · have hjl : j < len := by have := (List.getElem?_eq_some_iff.1 hj).1; omega
      have hp : f j = p := by simpa [List.getElem?_range hjl] using hj
      subst hp
      obtain ⟨c, h1, h2, h3⟩ := (hf j hjl).1
      exact ⟨c, h1, h2, h3⟩
    · obtain ⟨i, hi, rfl⟩ := List.mem_map.1 hy
      exact (hf i (List.mem_range.1 hi)).2
theorem byval1 {r : Reach} {b0 : Nat} {t : TypeId} {f0 : Field} {v : Value} {d : DataW H} {p : List MemPlace} (hs : P.underlying t = some (.struct #[f0])) (hone : oneCellFields P #[f0] = true) (hC : P.cellsOf t = 1)
    (hv : Value.okWide P w r b0 t v) (h : DataW.Trod enc P w base spare held t v d p) :
    ∃ (v0 : Value) (y0 : DataW H × List MemPlace) (n : Nat), v = .agg #[v0] ∧ DataW.trod enc P w base spare held n f0.type [v0] = some y0 := by
  obtain ⟨cs, rfl, hsz⟩ := okWide_struct hs hv
  obtain ⟨c0, rfl⟩ : ∃ c0, cs = #[c0] := by
    obtain ⟨l⟩ := cs
    match l, hsz.trans hC with
    | [c0], _ => exact ⟨c0, rfl⟩
  obtain ⟨fuel, hf⟩ := h
  obtain ⟨y0, n, _, _, h0⟩ := trod_struct1 hs hf
  obtain ⟨o0, k0⟩ := hone_of hone 0 f0 rfl
  exact ⟨c0, y0, n, rfl, by simpa [Value.cells, o0, k0] using h0⟩
instance : Inhabited S26 := ⟨⟨0, 0, 0, 0⟩⟩
set_option maxRecDepth 100000 in
theorem opn_S26 {w : World} {n : Nat} {cs : List Value} {y : DataW H × List MemPlace} (h : DataW.trod enc Try.prog w base spare held n 26 cs = some y) : ∃ x : S26, k26.K w x cs ∧ (fun x : S26 => (fun x => (Lit.int .i64 x).wf = true) x.f0 ∧ (fun x => (Lit.int .i64 x).wf = true) x.f1 ∧ (fun x => (Lit.int .i64 x).wf = true) x.f2 ∧ (fun x => (Lit.int .i64 x).wf = true) x.f3) x := by
  obtain ⟨y0, y1, y2, y3, m, _, hl, h0, h1, h2, h3⟩ := trod_struct4 Try.underlying26 h
  have hl' : cs.length = 4 := hl.trans (by kernel_rfl)
  have cc3 : Try.prog.cellsOf 3 = 1 := by kernel_rfl
  match cs, hl' with
  | [c0, c1, c2, c3], _ =>
  simp only [cc3, List.drop_zero, List.drop_succ_cons, List.take_succ_cons, List.take_zero] at h0 h1 h2 h3
  obtain ⟨a0, e0, w0⟩ := opn_int Try.underlying3 h0
  replace e0 := List.head_eq_of_cons_eq e0
  subst e0
  obtain ⟨a1, e1, w1⟩ := opn_int Try.underlying3 h1
  replace e1 := List.head_eq_of_cons_eq e1
  subst e1
  obtain ⟨a2, e2, w2⟩ := opn_int Try.underlying3 h2
  replace e2 := List.head_eq_of_cons_eq e2
  subst e2
  obtain ⟨a3, e3, w3⟩ := opn_int Try.underlying3 h3
  replace e3 := List.head_eq_of_cons_eq e3
  subst e3
  exact ⟨⟨a0, a1, a2, a3⟩, k26_mk w ⟨a0, a1, a2, a3⟩, w0, w1, w2, w3⟩
end
end Go.Proofs.Ytaoffejflichjaa.P
end
section
namespace Go.Proofs.Ytaoffejflichjaa.P
open Go.RowKit Go.Proofs.YtaoffejflichjaaW.PrintWords Go.Proofs.YtaoffejflichjaaW.PrintLast Go.Proofs.YtaoffejflichjaaW.PrintMore
def FnExactTakeSnapshotTrue : Prop := ∀ (A0_0 : Option Addr) (c0_0 : Nat) (l0_0 : List (List Int)) (A1 : Option Addr) (c1 : Nat) (l1 : List S26) (w : World), Kd.C (Kd.slice 5 (Kd.int .u8)) w A0_0 l0_0.length l0_0 → l0_0.length ≤ c0_0 → Kd.C k26 w A1 l1.length l1 → l1.length ≤ c1 → (fun l => l.length ≤ 9223372036854775807 ∧ ∀ x ∈ l, (fun l => l.length ≤ 9223372036854775807 ∧ ∀ x ∈ l, (fun x => (Lit.int .u8 x).wf = true) x) x) l0_0 → (fun l => l.length ≤ 9223372036854775807 ∧ ∀ x ∈ l, (fun x => (fun x => (Lit.int .i64 x).wf = true) x.f0 ∧ (fun x => (Lit.int .i64 x).wf = true) x.f1 ∧ (fun x => (Lit.int .i64 x).wf = true) x.f2 ∧ (fun x => (Lit.int .i64 x).wf = true) x.f3) x) l1 → Calls Try.prog 7 #[.agg #[.slice A0_0 l0_0.length c0_0], .slice A1 l1.length c1] w fun e w' => e = .returned (.bool true) ∧ Below w.heap.size w w'
end Go.Proofs.Ytaoffejflichjaa.P
end
section
namespace Go.Proofs.Ytaoffejflichjaa.P
open Go.RowKit Go.Proofs.YtaoffejflichjaaW.PrintWords Go.Proofs.YtaoffejflichjaaW.PrintLast Go.Proofs.YtaoffejflichjaaW.PrintMore
set_option linter.unusedVariables false
set_option linter.unusedSimpArgs false
def cvW (x : S26) : S33 := ⟨x.f0, x.f1, x.f2, x.f3⟩
theorem szWins (l : List S26) (t : Int) (hl : l.length ≤ 9223372036854775807) (h0 : ¬ t < 0) (h1 : t ≤ 1048576) : ∃ r, laws_szWindowS.f l t = some r ∧ (¬ r < 0 → l.length ≤ 1048576 ∧ r ≤ 1048576) := by
  unfold laws_szWindowS.f
  rw [wrap_in (x := t - (l.length : Int)) (by omega) (by omega)]
  by_cases h : t - (l.length : Int) < 0
  · rw [if_pos h]; exact ⟨_, rfl, fun h => by omega⟩
  · rw [if_neg h]; exact ⟨_, rfl, fun h => by omega⟩
theorem set_takeG {α : Type} (g x3 : List α) (i : Nat) (v : α) (hi : i < g.length) (hv : g[i] = v) (hl : x3.length = g.length) (ht : x3.take i = g.take i) : (x3.set i v).take (i + 1) = g.take (i + 1) := by
  rw [List.take_succ_eq_append_getElem (by simpa using (by omega : i < x3.length)), List.take_succ_eq_append_getElem hi]
  congr 1
  · rw [List.take_set_of_le (Nat.le_refl _)]; exact ht
  · simp [hv]
theorem rdA {l : List S26} {i : Nat} (h : i < l.length) : rd_T26 l (i : Int) = l[i] := by
  unfold rd_T26; rw [Int.toNat_natCast, List.getD_eq_getElem?_getD, List.getElem?_eq_getElem h]; rfl
theorem rdB {l : List S33} {i : Nat} (h : i < l.length) : rd_T33 l (i : Int) = l[i] := by
  unfold rd_T33; rw [Int.toNat_natCast, List.getD_eq_getElem?_getD, List.getElem?_eq_getElem h]; rfl
theorem toWins_l0 (x0 : List S26) (hmax : x0.length ≤ 1048576) (d : Nat) : ∀ (i : Nat) (x3 : List S33), i + d = x0.length → x3.length = x0.length → x3.take i = (x0.map cvW).take i →
    Ev (fun k => laws_toWindowS.l0 k x0 x3 (i : Int)) (x0.map cvW) := by
  induction d with
  | zero =>
    intro i x3 hi hl ht
    have e : x3 = x0.map cvW := by
      rw [List.take_of_length_le (by omega), List.take_of_length_le (by rw [List.length_map]; omega)] at ht; exact ht
    rw [e]
    exact Ev.end_ (fun k => by simp only [laws_toWindowS.l0]; rw [if_neg (by omega)])
  | succ d ih =>
    intro i x3 hi hl ht
    have hlt : i < x0.length := by omega
    obtain ⟨K2, h2⟩ := ih (i + 1) (x3.set i (cvW x0[i])) (by omega) (by simpa using hl) (set_takeG (x0.map cvW) x3 i _ (by simpa using hlt) (by simp) (by simpa using hl) ht)
    refine ⟨K2 + 1, fun n hn => ?_⟩
    obtain ⟨k, rfl⟩ : ∃ k, n = k + 1 := ⟨n - 1, by omega⟩
    have e2 := h2 k (by omega)
    dsimp only at e2 ⊢
    simp only [laws_toWindowS.l0, laws_toWindow.f, Option.bind_some]
    rw [if_pos (by omega), if_pos (by omega), if_pos (by omega), wrap_succ i (by omega), rdA hlt, Int.toNat_natCast]
    exact e2
theorem toWins (l : List S26) (hmax : l.length ≤ 1048576) : Ev (fun k => laws_toWindowS.f k l) (l.map cvW) := by
  obtain ⟨K, hK⟩ := toWins_l0 l hmax l.length 0 (List.replicate l.length z33) (by omega) (by simp) (by simp)
  refine ⟨K, fun k hk => ?_⟩
  have h1 := hK k hk
  simp only [Int.ofNat_zero, Int.natCast_zero] at h1
  dsimp only
  unfold laws_toWindowS.f
  rw [if_pos (by omega), if_pos (by rw [Int.toNat_natCast]; omega), Int.toNat_natCast]
  exact h1
theorem eqWins_l0 (l : List S33) (hmax : l.length ≤ 9223372036854775807) (d : Nat) : ∀ i : Nat, i + d = l.length → Ev (fun k => laws_eqWindowS.l0 k l l (i : Int)) true := by
  induction d with
  | zero => intro i hi; exact Ev.end_ (fun k => by simp only [laws_eqWindowS.l0]; rw [if_neg (by omega)])
  | succ d ih =>
    intro i hi
    have hlt : i < l.length := by omega
    obtain ⟨K2, h2⟩ := ih (i + 1) (by omega)
    refine ⟨K2 + 1, fun n hn => ?_⟩
    obtain ⟨k, rfl⟩ : ∃ k, n = k + 1 := ⟨n - 1, by omega⟩
    have e2 := h2 k (by omega)
    dsimp only at e2 ⊢
    simp only [laws_eqWindowS.l0, eqWin, Option.bind_some, if_true]
    rw [if_pos (by omega), if_pos (by omega), if_pos (by omega), wrap_succ i (by omega)]
    exact e2
theorem eqWins (l : List S33) (hmax : l.length ≤ 9223372036854775807) : Ev (fun k => laws_eqWindowS.f k l l) true := by
  obtain ⟨K, hK⟩ := eqWins_l0 l hmax l.length 0 (by omega)
  exact ⟨K, fun k hk => by dsimp only; unfold laws_eqWindowS.f; rw [if_pos rfl]; exact hK k hk⟩
def onAll (m : List (List Int)) (l : List S33) : Bool := l.all fun x => winOn m x.f0 x.f1 x.f2 x.f3
def wf4 (x : S33) : Prop := -9223372036854775808 ≤ x.f1 ∧ x.f1 ≤ 9223372036854775807
end Go.Proofs.Ytaoffejflichjaa.P
end
section
namespace Go.Proofs.Ytaoffejflichjaa.P
open Go.RowKit Go.Proofs.YtaoffejflichjaaW.PrintWords Go.Proofs.YtaoffejflichjaaW.PrintLast Go.Proofs.YtaoffejflichjaaW.PrintMore
set_option linter.unusedVariables false
set_option linter.unusedSimpArgs false
theorem l3Watched_l0 (m : List (List Int)) (hm : Fit m) (l : List S33) (hw : ∀ x ∈ l, wf4 x) (hlen : l.length ≤ 1048576) (d : Nat) : ∀ i : Nat, i + d = min l.length 13 →
    Ev (fun k => spec_l3Watched.l0 k l i m) (((l.drop i).take d).all (fun x => memOk m && winOn m x.f0 x.f1 x.f2 x.f3) && (memOk m && decide (l.length ≤ 12))) := by
  induction d with
  | zero =>
    intro i hi
    obtain ⟨K, hK⟩ := l2Mem m hm.1
    refine ⟨K + 2, fun k hk => ?_⟩
    obtain ⟨k, rfl⟩ : ∃ j, k = j + 1 + 1 := ⟨k - 2, by omega⟩
    have e1 := hK k (by omega)
    dsimp only at e1 ⊢
    have hj : spec_l3Watched.j1 (k + 1) l i false m = some (memOk m && decide (l.length ≤ 12)) := by
      unfold spec_l3Watched.j1
      rw [if_neg (by decide), e1, Option.bind_some]
      cases memOk m
      · rfl
      · rw [if_pos rfl]
        simp only [Bool.true_and, Option.some.injEq]
        rw [Bool.eq_iff_iff]
        simp only [decide_eq_true_eq]
        omega
    unfold spec_l3Watched.l0
    rw [List.take_zero, List.all_nil, Bool.true_and]
    by_cases h : (i : Int) < l.length
    · rw [if_pos h, decide_eq_false (show ¬ (i : Int) ≤ 12 by omega)]
      exact hj
    · rw [if_neg h]
      exact hj
  | succ d ih =>
    intro i hi
    have hlt : i < l.length := by omega
    obtain ⟨K, hK⟩ := l2Win m hm l[i].f0 l[i].f1 l[i].f2 l[i].f3 (hw _ (List.getElem_mem hlt))
    obtain ⟨K2, h2⟩ := ih (i + 1) (by omega)
    refine ⟨K + K2 + 2, fun k hk => ?_⟩
    obtain ⟨k, rfl⟩ : ∃ j, k = j + 1 + 1 := ⟨k - 2, by omega⟩
    have e1 := hK k (by omega)
    have e2 := h2 k (by omega)
    dsimp only at e1 e2 ⊢
    unfold spec_l3Watched.l0
    rw [if_pos (by omega), decide_eq_true (show (i : Int) ≤ 12 by omega)]
    unfold spec_l3Watched.j1
    rw [if_pos rfl, if_pos (by omega), if_pos (by omega), rdB hlt, e1, Option.bind_some, wrap_succ i (by omega), e2, List.drop_eq_getElem_cons hlt, List.take_succ_cons, List.all_cons]
    cases memOk m && winOn m l[i].f0 l[i].f1 l[i].f2 l[i].f3 <;> rfl
def watched (m : List (List Int)) (l : List S33) : Bool := memOk m && (onAll m l && decide (l.length ≤ 12))
theorem l3Watched_ev (m : List (List Int)) (hm : Fit m) (l : List S33) (hw : ∀ x ∈ l, wf4 x) (hlen : l.length ≤ 1048576) : Ev (fun k => spec_l3Watched.f k m l) (watched m l) := by
  obtain ⟨K, hK⟩ := l3Watched_l0 m hm l hw hlen (min l.length 13) 0 (by omega)
  refine ⟨K, fun k hk => ?_⟩
  have e1 := hK k hk
  refine e1.trans ?_
  unfold watched onAll
  rw [List.drop_zero, Option.some.injEq]
  by_cases h : l.length ≤ 12
  · rw [List.take_of_length_le (by omega), decide_eq_true h]
    cases memOk m
    · simp
    · simp
  · rw [decide_eq_false h]
    simp
theorem areWatched_ev (m : List (List Int)) (hm : Fit m) (l : List S33) : Ev (fun k => impl_areWatched.f k m l) (watched m l) := by
  obtain ⟨K, hK⟩ := areOn_ev m hm l
  refine ⟨K, fun k hk => ?_⟩
  have e1 := hK k hk
  dsimp only at e1 ⊢
  unfold impl_areWatched.f
  rw [e1, Option.bind_some]
  unfold watched onAll
  have e : decide ((l.length : Int) ≤ 12) = decide (l.length ≤ 12) := by
    rw [Bool.eq_iff_iff]; simp only [decide_eq_true_eq]; omega
  rw [e]
  cases memOk m <;> cases (l.all fun x => winOn m x.f0 x.f1 x.f2 x.f3) <;> rfl
end Go.Proofs.Ytaoffejflichjaa.P
end
section
namespace Go.Proofs.Ytaoffejflichjaa.P
open Go.RowKit Go.Proofs.YtaoffejflichjaaW.PrintWords Go.Proofs.YtaoffejflichjaaW.PrintLast Go.Proofs.YtaoffejflichjaaW.PrintMore
set_option linter.unusedVariables false
def Sm (s l : Int) : Prop := -1000000 ≤ s ∧ s ≤ 1000000 ∧ -1000000 ≤ l ∧ l ≤ 1000000
theorem win_sm {m : List (List Int)} {a s l c : Int} (hok : memOk m = true) (h : winOn m a s l c = true) : Sm s l ∧ Sm s c ∧ 0 ≤ s ∧ 0 ≤ l ∧ l ≤ c ∧ c ≤ 64 ∧ (0 ≤ a ∧ a < m.length) ∧ s + c ≤ (m.getD a.toNat []).length ∧ (m.getD a.toNat []).length ≤ 64 := by
  rw [winOn_iff] at h
  have hlt : a.toNat < m.length := by omega
  have := memOk_each hok _ (getD_mem m [] a.toNat hlt)
  unfold Sm
  omega
def seen (m : List (List Int)) (a s l : Int) : List Int := ((m.getD a.toNat []).drop s.toNat).take l.toNat
theorem seen_len {m : List (List Int)} {a s l c : Int} (hok : memOk m = true) (h : winOn m a s l c = true) : ((seen m a s l).length : Int) = l := by
  obtain ⟨_, _, h0, h1, h2, h3, h4, h5, h6⟩ := win_sm hok h
  unfold seen
  rw [List.length_take, List.length_drop]
  omega
theorem seen_rd {m : List (List Int)} {a s l i : Int} (h0 : 0 ≤ i) (h1 : i < l) (hs : 0 ≤ s) : rd (seen m a s l) i = rd (m.getD a.toNat []) (s + i) := by
  unfold rd seen
  generalize m.getD a.toNat [] = L
  rw [List.getD_eq_getElem?_getD, List.getD_eq_getElem?_getD, List.getElem?_take, if_pos (by omega), List.getElem?_drop, show s.toNat + i.toNat = (s + i).toNat by omega]
end Go.Proofs.Ytaoffejflichjaa.P
end
section
namespace Go.Proofs.Ytaoffejflichjaa.P
open Go.RowKit Go.Proofs.YtaoffejflichjaaW.PrintWords Go.Proofs.YtaoffejflichjaaW.PrintLast Go.Proofs.YtaoffejflichjaaW.PrintMore
set_option linter.unusedVariables false
set_option linter.unusedSimpArgs false
theorem onAll_each {m : List (List Int)} {l : List S33} (h : watched m l = true) : memOk m = true ∧ (∀ x ∈ l, winOn m x.f0 x.f1 x.f2 x.f3 = true) ∧ l.length ≤ 12 := by
  unfold watched onAll at h
  simp only [Bool.and_eq_true, decide_eq_true_eq, List.all_eq_true] at h
  exact ⟨h.1, h.2.1, h.2.2⟩
theorem win_lt {m : List (List Int)} {x : S33} (hok : memOk m = true) (h : winOn m x.f0 x.f1 x.f2 x.f3 = true) : 0 ≤ x.f1 ∧ 0 ≤ x.f2 ∧ x.f2 ≤ x.f3 ∧ x.f3 ≤ 64 ∧ x.f1 + x.f3 ≤ 64 := by
  obtain ⟨_, _, h0, h1, h2, h3, h4, h5, h6⟩ := win_sm hok h
  have hlt : x.f0.toNat < m.length := by omega
  have := memOk_each hok _ (getD_mem m [] x.f0.toNat hlt)
  omega
end Go.Proofs.Ytaoffejflichjaa.P
end
section
namespace Go.Proofs.Ytaoffejflichjaa.P
open Go.RowKit Go.Proofs.YtaoffejflichjaaW.PrintWords Go.Proofs.YtaoffejflichjaaW.PrintLast Go.Proofs.YtaoffejflichjaaW.PrintMore
set_option linter.unusedVariables false
set_option linter.unusedSimpArgs false
def ramp8 (a : Int) (n : Nat) : List Int := (List.range n).map fun (i : Nat) => (a + (i : Int)) % 256
theorem ramp8_len (a : Int) (n : Nat) : (ramp8 a n).length = n := by simp [ramp8]
theorem ramp8_succ (a : Int) (n : Nat) : ramp8 a (n + 1) = ramp8 a n ++ [(a + n) % 256] := by simp [ramp8, List.range_succ]
theorem markBytes_l0 (l : List Int) (a : Int) (hl : l.length ≤ 1099511627776) (h0 : 0 ≤ a) (h1 : a ≤ 4398046511104) (d : Nat) : ∀ i : Nat, i + d = l.length →
    Ev (fun k => laws_markByteS.l0 k (ramp8 a i ++ l.drop i) (a + i) (i : Int)) (a + l.length, ramp8 a l.length) := by
  induction d with
  | zero =>
    intro i hi
    obtain rfl : i = l.length := by omega
    refine Ev.end_ (fun k => ?_)
    simp only [laws_markByteS.l0]
    rw [if_neg (by simp [ramp8_len])]
    simp
  | succ d ih =>
    intro i hi
    have hlt : i < l.length := by omega
    have e : (ramp8 a i ++ l.drop i).set i ((a + i) % 256) = ramp8 a (i + 1) ++ l.drop (i + 1) := by
      rw [List.drop_eq_getElem_cons hlt, List.set_append_right _ _ (by rw [ramp8_len]; exact Nat.le_refl _), ramp8_succ, ramp8_len, Nat.sub_self, List.set_cons_zero, List.append_assoc]
      rfl
    obtain ⟨K, hK⟩ := ih (i + 1) (by omega)
    refine ⟨K + 1, fun n hn => ?_⟩
    obtain ⟨k, rfl⟩ : ∃ k, n = k + 1 := ⟨n - 1, by omega⟩
    have e2 := hK k (by omega)
    dsimp only at e2 ⊢
    simp only [laws_markByteS.l0]
    rw [if_pos (by simp [ramp8_len]; omega), if_pos (by omega), Int.toNat_natCast, e, wrap_in (x := a + i + 1) (by omega) (by omega), wrap_succ i (by omega)]
    rw [show a + (i : Int) + 1 = a + ((i + 1 : Nat) : Int) by omega]
    exact e2
theorem markBytes (l : List Int) (a : Int) (hl : l.length ≤ 1099511627776) (h0 : 0 ≤ a) (h1 : a ≤ 4398046511104) : Ev (fun k => laws_markByteS.f k l a) (a + l.length, ramp8 a l.length) := by
  obtain ⟨K, hK⟩ := markBytes_l0 l a hl h0 h1 l.length 0 (by omega)
  refine ⟨K, fun k hk => ?_⟩
  have := hK k hk
  simpa [laws_markByteS.f, ramp8] using this
theorem heldBytes_l0 (a : Int) (m : Nat) (hm : m ≤ 1099511627776) (h0 : 0 ≤ a) (h1 : a ≤ 4398046511104) (d : Nat) : ∀ i : Nat, i + d = m →
    Ev (fun k => laws_heldByteS.l0 k (ramp8 a m) (a + i) (i : Int)) (a + m) := by
  induction d with
  | zero =>
    intro i hi
    obtain rfl : i = m := by omega
    refine Ev.end_ (fun k => ?_)
    simp only [laws_heldByteS.l0]
    rw [if_neg (by simp [ramp8_len])]
  | succ d ih =>
    intro i hi
    have hlt : i < m := by omega
    have e : rd (ramp8 a m) (i : Int) = (a + i) % 256 := by
      unfold rd
      rw [Int.toNat_natCast, List.getD_eq_getElem?_getD, List.getElem?_eq_getElem (by rw [ramp8_len]; exact hlt)]
      simp [ramp8]
    obtain ⟨K, hK⟩ := ih (i + 1) (by omega)
    refine ⟨K + 1, fun n hn => ?_⟩
    obtain ⟨k, rfl⟩ : ∃ k, n = k + 1 := ⟨n - 1, by omega⟩
    have e2 := hK k (by omega)
    dsimp only at e2 ⊢
    simp only [laws_heldByteS.l0]
    rw [if_pos (by rw [ramp8_len]; omega), if_pos (by omega), if_pos e, wrap_in (x := a + i + 1) (by omega) (by omega), wrap_succ i (by omega)]
    rw [show a + (i : Int) + 1 = a + ((i + 1 : Nat) : Int) by omega]
    exact e2
theorem heldBytes (a : Int) (m : Nat) (hm : m ≤ 1099511627776) (h0 : 0 ≤ a) (h1 : a ≤ 4398046511104) : Ev (fun k => laws_heldByteS.f k (ramp8 a m) a) (a + m) := by
  obtain ⟨K, hK⟩ := heldBytes_l0 a m hm h0 h1 m 0 (by omega)
  refine ⟨K, fun k hk => ?_⟩
  have := hK k hk
  simpa [laws_heldByteS.f] using this
def total (m : List (List Int)) : Nat := (m.map List.length).sum
theorem total_small {m : List (List Int)} (h : Small m) : total m ≤ 1099511627776 := by
  obtain ⟨h1, h2⟩ := h
  have : ∀ m : List (List Int), (∀ a ∈ m, a.length ≤ 1048576) → total m ≤ m.length * 1048576 := by
    intro m
    induction m with
    | nil => intro _; simp [total]
    | cons a m ih =>
      intro h
      have h3 := h a List.mem_cons_self
      have h4 := ih (fun x hx => h x (List.mem_cons_of_mem _ hx))
      have e : total (a :: m) = a.length + total m := by simp [total]
      have e2 : (a :: m).length = m.length + 1 := rfl
      rw [e, e2]
      omega
  have := this m h2
  omega
def rampSS : List (List Int) → Int → List (List Int)
  | [], _ => []
  | l :: ls, a => ramp8 a l.length :: rampSS ls (a + l.length)
theorem rampSS_len : ∀ (m : List (List Int)) (a : Int), (rampSS m a).length = m.length
  | [], _ => rfl
  | _ :: ls, a => by simp [rampSS, rampSS_len ls]
theorem rampSS_at : ∀ (m : List (List Int)) (a : Int) (j : Nat) (h : j < m.length), (rampSS m a)[j]? = some (ramp8 (a + total (m.take j)) m[j].length)
  | l :: ls, a, 0, h => by simp [rampSS, total]
  | l :: ls, a, j + 1, h => by
    have h' : j < ls.length := by simpa using h
    have := rampSS_at ls (a + l.length) j h'
    simp only [rampSS, List.getElem?_cons_succ, this, List.take_succ_cons, List.getElem_cons_succ]
    congr 2
    simp [total]
    omega
theorem total_append (a b : List (List Int)) : total (a ++ b) = total a + total b := by simp [total]
theorem total_take_succ (m : List (List Int)) (j : Nat) (h : j < m.length) : total (m.take (j + 1)) = total (m.take j) + m[j].length := by
  rw [List.take_succ_eq_append_getElem h, total_append]
  have e : total [m[j]] = m[j].length := by simp [total]
  rw [e]
theorem total_take_le (m : List (List Int)) (j : Nat) : total (m.take j) ≤ total m := by
  have e : total (m.take j ++ m.drop j) = total (m.take j) + total (m.drop j) := total_append _ _
  rw [List.take_append_drop] at e
  omega
theorem markSS_l0 (m : List (List Int)) (a : Int) (hm : m.length ≤ 1048576) (ht : total m ≤ 1099511627776) (h0 : 0 ≤ a) (h1 : a ≤ 2199023255552) (d : Nat) : ∀ i : Nat, i + d = m.length →
    Ev (fun k => laws_markByteSS.l0 k ((rampSS m a).take i ++ m.drop i) (a + total (m.take i)) (i : Int)) (a + total m, rampSS m a) := by
  induction d with
  | zero =>
    intro i hi
    obtain rfl : i = m.length := by omega
    refine Ev.end_ (fun k => ?_)
    simp only [laws_markByteSS.l0]
    have e1 : (rampSS m a).take m.length = rampSS m a := List.take_of_length_le (by rw [rampSS_len]; exact Nat.le_refl _)
    rw [if_neg (by simp [rampSS_len]), e1]
    simp
  | succ d ih =>
    intro i hi
    have hlt : i < m.length := by omega
    have hti := total_take_succ m i hlt
    have htl := total_take_le m (i + 1)
    have hr := rampSS_at m a i hlt
    have hl1 : ((rampSS m a).take i).length = i := by rw [List.length_take, rampSS_len]; omega
    have erd : rd_L1 ((rampSS m a).take i ++ m.drop i) (i : Int) = m[i] := by
      unfold rd_L1
      rw [Int.toNat_natCast, List.getD_eq_getElem?_getD, List.getElem?_append_right (by omega), hl1, Nat.sub_self, List.getElem?_drop]
      simp [List.getElem?_eq_getElem hlt]
    have e : ((rampSS m a).take i ++ m.drop i).set i (ramp8 (a + total (m.take i)) m[i].length) = (rampSS m a).take (i + 1) ++ m.drop (i + 1) := by
      rw [List.drop_eq_getElem_cons hlt, List.set_append_right _ _ (by omega), hl1, Nat.sub_self, List.set_cons_zero, List.take_add_one, hr, List.append_assoc]
      rfl
    obtain ⟨K1, hK1⟩ := markBytes m[i] (a + total (m.take i)) (by omega) (by omega) (by omega)
    obtain ⟨K, hK⟩ := ih (i + 1) (by omega)
    refine ⟨K1 + K + 1, fun n hn => ?_⟩
    obtain ⟨k, rfl⟩ : ∃ k, n = k + 1 := ⟨n - 1, by omega⟩
    have e1 := hK1 k (by omega)
    have e2 := hK k (by omega)
    dsimp only at e1 e2 ⊢
    simp only [laws_markByteSS.l0]
    rw [if_pos (by rw [List.length_append, hl1, List.length_drop]; omega), if_pos (by omega), erd, e1, Option.bind_some]
    dsimp only
    rw [Int.toNat_natCast, e, wrap_succ i (by omega)]
    rw [show a + (total (m.take i) : Int) + (m[i].length : Int) = a + (total (m.take (i + 1)) : Int) by omega]
    exact e2
theorem markMem (m : List (List Int)) (a : Int) (hm : Small m) (h0 : 0 ≤ a) (h1 : a ≤ 2199023255552) : Ev (fun k => laws_markMemory.f k m a) (a + total m, rampSS m a) := by
  obtain ⟨K, hK⟩ := markSS_l0 m a hm.1 (total_small hm) h0 h1 m.length 0 (by omega)
  refine ⟨K, fun k hk => ?_⟩
  have := hK k hk
  simpa [laws_markMemory.f, laws_markByteSS.f, total] using this
end Go.Proofs.Ytaoffejflichjaa.P
end
section
namespace Go.Proofs.Ytaoffejflichjaa.P
open Go.RowKit Go.Proofs.YtaoffejflichjaaW.PrintWords Go.Proofs.YtaoffejflichjaaW.PrintLast Go.Proofs.YtaoffejflichjaaW.PrintMore
set_option linter.unusedVariables false
set_option linter.unusedSimpArgs false
theorem markWins_l0 (d : Nat) : ∀ (i : Nat) (a : Int) (x : List S33), i + d = x.length → x.length ≤ 1048576 → 0 ≤ a → a + 4 * d ≤ 8796093022208 → ∃ y, Ev (fun k => laws_markWindowS.l0 k x a (i : Int)) (a + 4 * d, y) := by
  induction d with
  | zero =>
    intro i a x hi hx h0 h1
    refine ⟨x, Ev.end_ (fun k => ?_)⟩
    simp only [laws_markWindowS.l0]
    rw [if_neg (by omega)]
    simp
  | succ d ih =>
    intro i a x hi hx h0 h1
    have hl : ∀ (b0 b1 b2 b3 : S33), ((((x.set i b0).set i b1).set i b2).set i b3).length = x.length := by intro b0 b1 b2 b3; simp
    have step : ∀ (b0 b1 b2 b3 : S33), ∃ y, Ev (fun k => laws_markWindowS.l0 k ((((x.set i b0).set i b1).set i b2).set i b3) (a + 1 + 1 + 1 + 1) ((i + 1 : Nat) : Int)) (a + 4 * ((d + 1 : Nat) : Int), y) := by
      intro b0 b1 b2 b3
      obtain ⟨y, hy⟩ := ih (i + 1) (a + 1 + 1 + 1 + 1) ((((x.set i b0).set i b1).set i b2).set i b3) (by rw [hl]; omega) (by rw [hl]; omega) (by omega) (by omega)
      refine ⟨y, ?_⟩
      rw [show a + 4 * ((d + 1 : Nat) : Int) = a + 1 + 1 + 1 + 1 + 4 * (d : Int) by omega]
      exact hy
    have e : ∀ k, ∃ b0 b1 b2 b3, laws_markWindowS.l0 (k + 1) x a (i : Int) = laws_markWindowS.l0 k ((((x.set i b0).set i b1).set i b2).set i b3) (a + 1 + 1 + 1 + 1) ((i + 1 : Nat) : Int) ∧ ∀ k', laws_markWindowS.l0 (k' + 1) x a (i : Int) = laws_markWindowS.l0 k' ((((x.set i b0).set i b1).set i b2).set i b3) (a + 1 + 1 + 1 + 1) ((i + 1 : Nat) : Int) := by
      intro k
      have h : ∀ k', laws_markWindowS.l0 (k' + 1) x a (i : Int) = _ := fun k' => by
        simp only [laws_markWindowS.l0, Option.bind_some, Int.toNat_natCast]
        rw [if_pos (by omega), if_pos (by omega), wrap_in (x := a + 1) (by omega) (by omega), wrap_in (x := a + 1 + 1) (by omega) (by omega), wrap_in (x := a + 1 + 1 + 1) (by omega) (by omega), wrap_in (x := a + 1 + 1 + 1 + 1) (by omega) (by omega), wrap_succ i (by omega)]
      exact ⟨_, _, _, _, h k, h⟩
    obtain ⟨b0, b1, b2, b3, _, e⟩ := e 0
    obtain ⟨y, K, hK⟩ := step b0 b1 b2 b3
    refine ⟨y, K + 1, fun n hn => ?_⟩
    obtain ⟨k, rfl⟩ : ∃ k, n = k + 1 := ⟨n - 1, by omega⟩
    dsimp only
    rw [e k]
    exact hK k (by omega)
theorem markWins (l : List S33) (a : Int) (hl : l.length ≤ 1048576) (h0 : 0 ≤ a) (h1 : a ≤ 4398046511104) : ∃ y, Ev (fun k => laws_markWindowS.f k l a) (a + 4 * (l.length : Int), y) := by
  obtain ⟨y, hy⟩ := markWins_l0 l.length 0 a l (by omega) hl h0 (by omega)
  exact ⟨y, hy⟩
end Go.Proofs.Ytaoffejflichjaa.P
end
section
namespace Go.Proofs.Ytaoffejflichjaa.P
open Go.RowKit Go.Proofs.YtaoffejflichjaaW.PrintWords Go.Proofs.YtaoffejflichjaaW.PrintLast Go.Proofs.YtaoffejflichjaaW.PrintMore
set_option linter.unusedVariables false
set_option linter.unusedSimpArgs false
theorem heldSS_l0 (m : List (List Int)) (a : Int) (hm : m.length ≤ 1048576) (ht : total m ≤ 1099511627776) (h0 : 0 ≤ a) (h1 : a ≤ 2199023255552) (d : Nat) : ∀ i : Nat, i + d = m.length →
    Ev (fun k => laws_heldByteSS.l0 k (rampSS m a) (a + total (m.take i)) (i : Int)) (a + total m) := by
  induction d with
  | zero =>
    intro i hi
    obtain rfl : i = m.length := by omega
    refine Ev.end_ (fun k => ?_)
    simp only [laws_heldByteSS.l0]
    rw [if_neg (by rw [rampSS_len]; omega)]
    simp
  | succ d ih =>
    intro i hi
    have hlt : i < m.length := by omega
    have hti := total_take_succ m i hlt
    have htl := total_take_le m (i + 1)
    have hr := rampSS_at m a i hlt
    have erd : rd_L1 (rampSS m a) (i : Int) = ramp8 (a + total (m.take i)) m[i].length := by
      unfold rd_L1
      rw [Int.toNat_natCast, List.getD_eq_getElem?_getD, hr]; rfl
    obtain ⟨K1, hK1⟩ := heldBytes (a + total (m.take i)) m[i].length (by omega) (by omega) (by omega)
    obtain ⟨K, hK⟩ := ih (i + 1) (by omega)
    refine ⟨K1 + K + 1, fun n hn => ?_⟩
    obtain ⟨k, rfl⟩ : ∃ k, n = k + 1 := ⟨n - 1, by omega⟩
    have e1 := hK1 k (by omega)
    have e2 := hK k (by omega)
    dsimp only at e1 e2 ⊢
    simp only [laws_heldByteSS.l0]
    rw [if_pos (by rw [rampSS_len]; omega), if_pos (by omega), erd, e1, Option.bind_some, if_neg (by omega), wrap_succ i (by omega)]
    rw [show a + (total (m.take i) : Int) + (m[i].length : Int) = a + (total (m.take (i + 1)) : Int) by omega]
    exact e2
theorem heldMem (m : List (List Int)) (a : Int) (hm : Small m) (h0 : 0 ≤ a) (h1 : a ≤ 2199023255552) : Ev (fun k => laws_heldMemory.f k (rampSS m a) a) (a + total m) := by
  obtain ⟨K, hK⟩ := heldSS_l0 m a hm.1 (total_small hm) h0 h1 m.length 0 (by omega)
  refine ⟨K, fun k hk => ?_⟩
  have h := hK k hk
  dsimp only at h ⊢
  rw [laws_heldMemory.f, laws_heldByteSS.f]
  have e : laws_heldByteSS.l0 k (rampSS m a) a 0 = some (a + total m) := by simpa [total] using h
  rw [e, Option.bind_some, if_neg (by omega)]
end Go.Proofs.Ytaoffejflichjaa.P
end
section
namespace Go.Proofs.Ytaoffejflichjaa.P
open Go.RowKit Go.Proofs.YtaoffejflichjaaW.PrintWords Go.Proofs.YtaoffejflichjaaW.PrintLast Go.Proofs.YtaoffejflichjaaW.PrintMore
set_option linter.unusedVariables false
theorem seen_eq {m : List (List Int)} {a s l c : Int} (hok : memOk m = true) (h : winOn m a s l c = true) : impl_Memory_seen.f m a s l c = some (seen m a s l) := by
  obtain ⟨_, _, h0, h1, h2, h3, h4, h5, h6⟩ := win_sm hok h
  unfold impl_Memory_seen.f
  have e : rd_L1 m a = m.getD a.toNat [] := rfl
  rw [e, wrap_in (x := s + l) (by omega) (by omega), if_pos h4.1, if_pos h4.2, if_pos h0, if_pos (by omega), if_pos (by omega), List.drop_take]
  unfold seen
  rw [show (s + l).toNat - s.toNat = l.toNat by omega]
theorem at_eq {m : List (List Int)} {a s l c i : Int} (hok : memOk m = true) (h : winOn m a s l c = true) (hi : 0 ≤ i) (hl : i < l) : spec_l2At.f m a s l c i = some (rd (seen m a s l) i) := by
  obtain ⟨_, _, h0, h1, h2, h3, h4, h5, h6⟩ := win_sm hok h
  unfold spec_l2At.f
  have e : rd_L1 m a = m.getD a.toNat [] := rfl
  rw [e, wrap_in (x := s + i) (by omega) (by omega), if_pos h4.1, if_pos h4.2, if_pos (by omega), if_pos (by omega), seen_rd hi hl h0]
end Go.Proofs.Ytaoffejflichjaa.P
end
section
namespace Go.Proofs.Ytaoffejflichjaa.P
open Go.RowKit Go.Proofs.YtaoffejflichjaaW.PrintWords Go.Proofs.YtaoffejflichjaaW.PrintLast Go.Proofs.YtaoffejflichjaaW.PrintMore
set_option linter.unusedVariables false
set_option linter.unusedSimpArgs false
theorem rd_get {xs : List Int} {i : Nat} (h : i < xs.length) : rd xs (i : Int) = xs[i] := by
  unfold rd
  rw [Int.toNat_natCast, List.getD_eq_getElem?_getD, List.getElem?_eq_getElem h]; rfl
theorem l2Bytes_l0 (m : List (List Int)) (a s l c : Int) (hok : memOk m = true) (hw : winOn m a s l c = true) (d : Nat) : ∀ i : Nat, i + d = (seen m a s l).length →
    Ev (fun k => spec_l2Bytes.l0 k ((seen m a s l).take i) i m a s l c) (seen m a s l) := by
  have hb := win_sm hok hw
  have hl := seen_len hok hw
  unfold Sm at hb
  induction d with
  | zero =>
    intro i hi
    refine ⟨1, fun k hk => ?_⟩
    obtain ⟨k, rfl⟩ : ∃ j, k = j + 1 := ⟨k - 1, by omega⟩
    dsimp only
    unfold spec_l2Bytes.l0
    rw [if_neg (by omega), List.take_of_length_le (by omega)]
  | succ d ih =>
    intro i hi
    have hlt : i < (seen m a s l).length := by omega
    obtain ⟨K, hK⟩ := ih (i + 1) (by omega)
    refine ⟨K + 1, fun k hk => ?_⟩
    obtain ⟨k, rfl⟩ : ∃ j, k = j + 1 := ⟨k - 1, by omega⟩
    have e1 := hK k (by omega)
    dsimp only at e1 ⊢
    unfold spec_l2Bytes.l0
    rw [if_pos (by omega), at_eq hok hw (by omega) (by omega), Option.bind_some, rd_get hlt, if_pos (by rw [List.length_take]; omega), wrap_in (x := (i : Int) + 1) (by omega) (by omega)]
    rw [List.take_succ_eq_append_getElem hlt, show ((i + 1 : Nat) : Int) = (i : Int) + 1 by omega] at e1
    exact e1
theorem l2Bytes_ev {m : List (List Int)} {a s l c : Int} (hok : memOk m = true) (hw : winOn m a s l c = true) : Ev (fun k => spec_l2Bytes.f k m a s l c) (seen m a s l) := by
  have := l2Bytes_l0 m a s l c hok hw (seen m a s l).length 0 (by omega)
  exact this
end Go.Proofs.Ytaoffejflichjaa.P
end
section
namespace Go.Proofs.Ytaoffejflichjaa.P
open Go.RowKit Go.Proofs.YtaoffejflichjaaW.PrintWords Go.Proofs.YtaoffejflichjaaW.PrintLast Go.Proofs.YtaoffejflichjaaW.PrintMore
set_option linter.unusedVariables false
set_option linter.unusedSimpArgs false
def shot (m : List (List Int)) (x : S33) : List Int := if x.f2 = 0 then [0] else seen m x.f0 x.f1 x.f2
theorem shot_len {m : List (List Int)} {x : S33} (hok : memOk m = true) (h : winOn m x.f0 x.f1 x.f2 x.f3 = true) : (shot m x).length ≤ 64 := by
  unfold shot
  have h1 := seen_len hok h
  have h2 := win_lt hok h
  split
  · simp
  · omega
theorem shot_spec {m : List (List Int)} {x : S33} (hok : memOk m = true) (h : winOn m x.f0 x.f1 x.f2 x.f3 = true) : Ev (fun k => spec_l3Shot.f k m x.f0 x.f1 x.f2 x.f3) (shot m x) := by
  obtain ⟨K, hK⟩ := l2Bytes_ev hok h
  refine ⟨K, fun k hk => ?_⟩
  have e1 := hK k hk
  dsimp only at e1 ⊢
  unfold spec_l3Shot.f shot
  by_cases h0 : x.f2 = 0
  · rw [if_pos h0, if_pos h0]
  · rw [if_neg h0, if_neg h0, e1]; rfl
theorem shot_impl {m : List (List Int)} {x : S33} (hok : memOk m = true) (h : winOn m x.f0 x.f1 x.f2 x.f3 = true) : impl_Memory_shotOf.f m x.f0 x.f1 x.f2 x.f3 = some (shot m x) := by
  unfold impl_Memory_shotOf.f shot
  have h1 := seen_len hok h
  have h2 := win_lt hok h
  by_cases h0 : x.f2 = 0
  · rw [if_pos h0, if_pos h0]
  · rw [if_neg h0, if_neg h0, seen_eq hok h, Option.bind_some, slices_Clone_byte_byte.f, if_pos (by omega)]; rfl
theorem shots_spec_l0 (m : List (List Int)) (l : List S33) (hok : memOk m = true) (hon : ∀ x ∈ l, winOn m x.f0 x.f1 x.f2 x.f3 = true) (hlen : l.length ≤ 12) (d : Nat) : ∀ i : Nat, i + d = l.length →
    Ev (fun k => spec_TakeSnapshot.l0 k l (i : Int) m ((l.take i).map (shot m))) (l.map (shot m), true) := by
  induction d with
  | zero =>
    intro i hi
    obtain rfl : i = l.length := by omega
    refine Ev.end_ (fun k => ?_)
    rw [spec_TakeSnapshot.l0, if_neg (by omega), List.take_length]
  | succ d ih =>
    intro i hi
    have hlt : i < l.length := by omega
    obtain ⟨K1, h1⟩ := shot_spec hok (hon _ (List.getElem_mem hlt))
    obtain ⟨K2, h2⟩ := ih (i + 1) (by omega)
    refine ⟨K1 + K2 + 1, fun k hk => ?_⟩
    obtain ⟨k, rfl⟩ : ∃ j, k = j + 1 := ⟨k - 1, by omega⟩
    have e1 := h1 k (by omega)
    have e2 := h2 k (by omega)
    dsimp only at e1 e2 ⊢
    rw [spec_TakeSnapshot.l0, if_pos (by omega), if_pos (by omega), rdB hlt, e1, Option.bind_some, if_pos (by rw [List.length_map, List.length_take]; omega), wrap_succ i (by omega)]
    rw [List.take_succ_eq_append_getElem hlt, List.map_append] at e2
    exact e2
theorem shots_impl_l0 (m : List (List Int)) (l : List S33) (hok : memOk m = true) (hon : ∀ x ∈ l, winOn m x.f0 x.f1 x.f2 x.f3 = true) (hlen : l.length ≤ 12) (d : Nat) : ∀ i : Nat, i + d = l.length →
    Ev (fun k => impl_TakeSnapshot.l0 k l (l.length : Int) (i : Int) m ((l.take i).map (shot m))) (l.map (shot m), true) := by
  induction d with
  | zero =>
    intro i hi
    obtain rfl : i = l.length := by omega
    refine Ev.end_ (fun k => ?_)
    rw [impl_TakeSnapshot.l0, if_neg (by omega), List.take_length]
  | succ d ih =>
    intro i hi
    have hlt : i < l.length := by omega
    obtain ⟨K2, h2⟩ := ih (i + 1) (by omega)
    refine ⟨K2 + 1, fun k hk => ?_⟩
    obtain ⟨k, rfl⟩ : ∃ j, k = j + 1 := ⟨k - 1, by omega⟩
    have e2 := h2 k (by omega)
    dsimp only at e2 ⊢
    rw [impl_TakeSnapshot.l0, if_pos (by omega), if_pos (by omega), if_pos (by omega), rdB hlt, shot_impl hok (hon _ (List.getElem_mem hlt)), Option.bind_some, if_pos (by rw [List.length_map, List.length_take]; omega), wrap_succ i (by omega)]
    rw [List.take_succ_eq_append_getElem hlt, List.map_append] at e2
    exact e2
def shotsR (m : List (List Int)) (l : List S33) : List (List Int) × Bool := if watched m l = true then (l.map (shot m), true) else ([], false)
theorem shots_spec (m : List (List Int)) (hm : Fit m) (l : List S33) (hw : ∀ x ∈ l, wf4 x) (hlen : l.length ≤ 1048576) : Ev (fun k => spec_TakeSnapshot.f k m l) (shotsR m l) := by
  obtain ⟨K, hK⟩ := l3Watched_ev m hm l hw hlen
  unfold shotsR
  cases h : watched m l with
  | false =>
    refine ⟨K, fun k hk => ?_⟩
    have e1 := hK k hk
    dsimp only at e1 ⊢
    rw [spec_TakeSnapshot.f, e1, h]; rfl
  | true =>
    obtain ⟨hok, hon, h12⟩ := onAll_each h
    obtain ⟨K2, h2⟩ := shots_spec_l0 m l hok hon h12 l.length 0 (by omega)
    refine ⟨K + K2, fun k hk => ?_⟩
    have e1 := hK k (by omega)
    have e2 := h2 k (by omega)
    dsimp only at e1 e2 ⊢
    rw [spec_TakeSnapshot.f, e1, h, Option.bind_some, if_pos rfl, if_pos rfl]
    simpa using e2
theorem shots_impl (m : List (List Int)) (hm : Fit m) (l : List S33) : Ev (fun k => impl_TakeSnapshot.f k m l) (shotsR m l) := by
  obtain ⟨K, hK⟩ := areWatched_ev m hm l
  unfold shotsR
  cases h : watched m l with
  | false =>
    refine ⟨K, fun k hk => ?_⟩
    have e1 := hK k hk
    dsimp only at e1 ⊢
    rw [impl_TakeSnapshot.f, e1, h]; rfl
  | true =>
    obtain ⟨hok, hon, h12⟩ := onAll_each h
    obtain ⟨K2, h2⟩ := shots_impl_l0 m l hok hon h12 l.length 0 (by omega)
    refine ⟨K + K2, fun k hk => ?_⟩
    have e1 := hK k (by omega)
    have e2 := h2 k (by omega)
    dsimp only at e1 e2 ⊢
    rw [impl_TakeSnapshot.f, e1, h, Option.bind_some, if_pos rfl, if_pos rfl]
    simpa using e2
theorem shots_small (m : List (List Int)) (l : List S33) : Small (shotsR m l).1 := by
  unfold shotsR
  cases h : watched m l with
  | false => exact ⟨by simp, by simp⟩
  | true =>
    obtain ⟨hok, hon, h12⟩ := onAll_each h
    refine ⟨by simp only [if_true, List.length_map]; omega, fun a ha => ?_⟩
    simp only [if_true] at ha
    obtain ⟨x, hx, rfl⟩ := List.mem_map.mp ha
    have := shot_len hok (hon x hx)
    omega
theorem FnExactTakeSnapshot_ok : FnExactTakeSnapshotTrue := by
  intro A0 c0 m A1 c1 l w hr hc hr1 hc1 hm hl
  have hfit : Fit m := ⟨hm.1, fun a ha => (hm.2 a ha).1⟩
  have hw : ∀ x ∈ l.map cvW, wf4 x := fun x hx => by
    obtain ⟨y, hy, rfl⟩ := List.mem_map.mp hx
    exact wf64 (hl.2 y hy).2.1
  obtain ⟨r, ⟨K0, h0⟩, hz⟩ := szMem m hfit
  dsimp only at h0
  by_cases hr0 : r < 0
  · exact laws_FnExactTakeSnapshot.exit1 K0 A0 c0 m A1 c1 l r w hr hc hr1 hc1 (h0 K0 (Nat.le_refl _)) hr0
  · obtain ⟨hsm, hr1'⟩ := hz hr0
    obtain ⟨r2, hq, hz2⟩ := szWins l r hl.1 hr0 hr1'
    by_cases hr2 : r2 < 0
    · exact laws_FnExactTakeSnapshot.exit2 K0 A0 c0 m A1 c1 l r r2 w hr hc hr1 hc1 (h0 K0 (Nat.le_refl _)) hq hr0 hr2
    · obtain ⟨hlen, _⟩ := hz2 hr2
      have hlen' : (l.map cvW).length ≤ 1048576 := by rw [List.length_map]; exact hlen
      obtain ⟨K1, e1⟩ := toMem m hsm
      obtain ⟨K2, e2⟩ := eqMem m hfit
      obtain ⟨K3, e3⟩ := toWins l hlen
      obtain ⟨K4, e4⟩ := eqWins (l.map cvW) (by omega)
      obtain ⟨K5, e5⟩ := shots_spec m hfit (l.map cvW) hw hlen'
      obtain ⟨K6, e6⟩ := shots_impl m hfit (l.map cvW)
      have hg : Small (shotsR m (l.map cvW)).1 := shots_small m (l.map cvW)
      obtain ⟨⟨g, ok⟩, hgo⟩ : ∃ x, x = shotsR m (l.map cvW) := ⟨_, rfl⟩
      rw [← hgo] at e5 e6 hg
      dsimp only at hg
      obtain ⟨K7, e7⟩ := eqMem g hg.fit
      obtain ⟨K8, e8⟩ := markMem m 1 hsm (by omega) (by omega)
      have ht := total_small hsm
      obtain ⟨y, K9, e9⟩ := markWins (l.map cvW) (1 + total m) hlen' (by omega) (by omega)
      have ht2 := total_small hg
      obtain ⟨K10, e10⟩ := markMem g 1 hg (by omega) (by omega)
      obtain ⟨K11, e11⟩ := heldMem g 1 hg (by omega) (by omega)
      obtain ⟨K, hK⟩ : ∃ K, K = K0 + K1 + K2 + K3 + K4 + K5 + K6 + K7 + K8 + K9 + K10 + K11 := ⟨_, rfl⟩
      exact laws_FnExactTakeSnapshot.walk K A0 c0 m A1 c1 l r r2 m (l.map cvW) g ok g _ _ _ _ _ _ w hr hc hr1 hc1 (h0 K (by omega)) hq (e1 K (by omega)) (e3 K (by omega)) (e5 K (by omega)) (e6 K (by omega)) (e7 K (by omega)) (e2 K (by omega)) (e4 K (by omega)) (e8 K (by omega)) (e9 K (by omega)) (e10 K (by omega)) (e11 K (by omega)) hr0 hr2 (by omega) (by omega) (by omega)
end Go.Proofs.Ytaoffejflichjaa.P
end
section
namespace Go.Proofs.Ytaoffejflichjaa.fnExactTakeSnapshot
open Go.ChangeShapes Go.WideShapes Go.ChangeAt Go.RowKit Go.Proofs.Ytaoffejflichjaa.P Go.Proofs.YtaoffejflichjaaW.PrintWords Go.Proofs.YtaoffejflichjaaW.PrintLast Go.Proofs.YtaoffejflichjaaW.PrintMore
open Go.ChangeMaps (open_string shut_string)
set_option linter.unusedVariables false
set_option linter.unusedSimpArgs false
theorem own : ownKnob Try.prog.godebug = none := by kernel_rfl
theorem laidOut : laidOutB Try.prog = true := by kernel_rfl
set_option maxRecDepth 100000 in
theorem lifted (os : Os) (started : os.Started) (H : Type) (enc : TypeId × Value → H) :
    ReturnsInHanded {} Try.checked os 7 .any (Rows.fnExactTakeSnapshotSpec.pre6 enc Try.prog Try.f7 Rows.fnExactTakeSnapshotRow.domain false) (Rows.fnExactTakeSnapshotSpec.post enc Try.prog Try.f7 false true false false) := by
  refine returnsInHanded_of_change_sized (C := Try.checked) own started (by kernel_rfl) Try.func7
    (ChangeSpec.witness6 (enc := enc) (C := Try.checked) false ⟨#[], #[.agg #[.slice none 0 0], .slice none 0 0], []⟩ 8 (by kernel_rfl) (by kernel_rfl) (by kernel_rfl) (by kernel_rfl)) ?_
  intro W base args ds gs before hval0 hW hcnd hsz0 _
  have hval : ∀ (j : Nat) t v, Try.f7.params[j]? = some t → args[j]? = some v → Value.okWide Try.prog W .any base t v := hval0
  have hW' := hW
  obtain ⟨p, q, hA0, hV, rfl, hfz, hnd⟩ := hW
  have hA : DataW.TrodAll enc Try.prog W 0 (fun _ => true) true Try.f7.params.toList args.toList ds p := hA0
  rw [Try.params7] at hA hval
  obtain ⟨v0, vs0, d0, ds0, p0, q0, hargs, rfl, rfl, h0, r0⟩ := trodAll_cons hA
  obtain ⟨v1, vs1, d1, ds1, p1, q1, rfl, rfl, rfl, h1, r1⟩ := trodAll_cons r0
  obtain ⟨rfl, rfl, rfl⟩ := trodAll_nil r1
  obtain rfl : args = #[v0, v1] := by cases args; simp_all
  obtain ⟨rfl, rfl⟩ := trodVars_none hV
  have k0_ := h0
  have lt0 : ∀ x ∈ p0, x.block < W.heap.size := by obtain ⟨m, hm⟩ := k0_; exact DataW.trod_lt m _ _ _ hm
  obtain ⟨v0_0, y0_0, nn0, rfl, h0_0⟩ := byval1 Try.underlying24 (by kernel_rfl) (by kernel_rfl) (hval 0 24 v0 rfl rfl) h0
  obtain ⟨l0_0, hk0_0, w0_0⟩ := opn_slice (d := (Kd.slice 5 (Kd.int .u8))) (Q := (fun l => l.length ≤ 9223372036854775807 ∧ ∀ x ∈ l, (fun x => (Lit.int .u8 x).wf = true) x)) Try.underlying22 (by kernel_rfl) (fun _ _ _ h => opn_slice (d := (Kd.int .u8)) (Q := (fun x => (Lit.int .u8 x).wf = true)) Try.underlying28 (by kernel_rfl) (fun _ _ _ h => opn_int Try.underlying5 h) h) h0_0
  obtain ⟨A0_0, c0_0, e0_0, hc0_0, hr0_0⟩ := hk0_0
  simp only [List.cons.injEq, and_true] at e0_0
  subst e0_0
  have k1_ := h1
  have lt1 : ∀ x ∈ p1, x.block < W.heap.size := by obtain ⟨m, hm⟩ := k1_; exact DataW.trod_lt m _ _ _ hm
  obtain ⟨nn1, h1_0⟩ := h1
  obtain ⟨A_, n_, c_, rfl⟩ := okWide_slice Try.underlying40 (hval 1 40 v1 rfl rfl)
  obtain ⟨l1, hk1, w1⟩ := opn_slice (d := k26) (Q := (fun x => (fun x => (Lit.int .i64 x).wf = true) x.f0 ∧ (fun x => (Lit.int .i64 x).wf = true) x.f1 ∧ (fun x => (Lit.int .i64 x).wf = true) x.f2 ∧ (fun x => (Lit.int .i64 x).wf = true) x.f3)) Try.underlying40 (by kernel_rfl) (fun _ _ _ h => opn_S26 h) h1_0
  obtain ⟨A1, c1, e1, hc1, hr1⟩ := hk1
  simp only [Value.cells, List.cons.injEq, and_true, Array.toList] at e1
  simp only [Value.slice.injEq] at e1
  obtain ⟨rfl, rfl, rfl⟩ := e1
  clear hA0 hval0 hsz0
  refine (FnExactTakeSnapshot_ok _ _ l0_0 _ _ l1 W hr0_0 hc0_0 hr1 hc1 w0_0 w1).mono fun e W' ⟨he, bel0⟩ => ?_
  have bel : Below W.heap.size W W' := by first | exact bel0 | exact bel0.below
  subst he
  exact ⟨_, rfl, _, _, _, [], _, [], hW', trodAll_mk1 (shut_bool Try.underlying4 _), (trodAll_cons_mk (Below.trod laidOut (by kernel_rfl) (of_decide_eq_true (by kernel_rfl)) k0_ bel lt0) (trodAll_cons_mk (Below.trod laidOut (by kernel_rfl) (of_decide_eq_true (by kernel_rfl)) k1_ bel lt1) trodAll_mk0)), rfl, bel.frame _, fun h => by cases h⟩
theorem over : Rows.fnExactTakeSnapshotRow.holds Try.pinned (OpenSpec.ofChange Rows.fnExactTakeSnapshotSpec) :=
  OpenClaim.holds_of_wide 7 Try.f7 rfl rfl rfl rfl rfl rfl rfl ⟨rfl, rfl, rfl, rfl, rfl⟩ rfl rfl rfl rfl rfl (by kernel_rfl) Try.func7 (by kernel_rfl)
    (of_decide_eq_true (by kernel_rfl)) (by unfold Func.isWrapper; first | (rw [if_pos (by decide +kernel)]; kernel_rfl) | (rw [if_neg (by decide +kernel)]; exact ⟨rfl, rfl⟩))
    (fun os started H enc _ => lifted os started H enc)
theorem proved : Rows.FnExactTakeSnapshotSaid := over
#print axioms proved
end Go.Proofs.Ytaoffejflichjaa.fnExactTakeSnapshot
namespace Go.Proofs.Ytaoffejflichjaa
theorem fnExactTakeSnapshot_holds : Rows.FnExactTakeSnapshotSaid := fnExactTakeSnapshot.proved
end Go.Proofs.Ytaoffejflichjaa
end
