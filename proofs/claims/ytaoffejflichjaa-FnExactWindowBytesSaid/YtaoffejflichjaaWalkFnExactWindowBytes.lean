/- The walk of FnExactWindowBytes on its one true way: the values of its calls come in as hypotheses. Printed by mkmark.py of this repo. -/
import Derived.Test.YtaoffejflichjaaMarks
import Derived.Test.YtaoffejflichjaaPx1
import Derived.Test.YtaoffejflichjaaPx2
import Derived.Test.YtaoffejflichjaaPx5
import Derived.Test.YtaoffejflichjaaPx6
import Derived.Test.YtaoffejflichjaaSz
namespace Go.Proofs.Ytaoffejflichjaa.P
open Go.RowKit Go.Proofs.YtaoffejflichjaaW.PrintWords Go.Proofs.YtaoffejflichjaaW.PrintLast Go.Proofs.YtaoffejflichjaaW.PrintMore
set_option linter.unusedVariables false
set_option linter.unusedSimpArgs false
attribute [local go_sem] pset_drewN
set_option maxHeartbeats 8000000 in
set_option maxRecDepth 100000 in
theorem laws_FnExactWindowBytes.exit1 (k : Nat) (A0_0 : Option Addr) (c0_0 : Nat) (l0_0 : List (List Int)) (a1_0 : Int) (a1_1 : Int) (a1_2 : Int) (a1_3 : Int) (z4 : Int) (w : World) (hr0_0 : Kd.C (Kd.slice 5 (Kd.int .u8)) w A0_0 l0_0.length l0_0) (hc0_0 : l0_0.length ≤ c0_0) (hE1 : laws_szMemory.f k l0_0 1048576 = some z4) (hz4_no : z4 < 0) :
    Calls Try.prog 3 #[.agg #[.slice A0_0 l0_0.length c0_0], .agg #[.int .i64 a1_0, .int .i64 a1_1, .int .i64 a1_2, .int .i64 a1_3]] w fun e w' => e = .returned (.bool true) ∧ Below w.heap.size w w' := by
  have hu24 := Try.underlying24
  have hu26 := Try.underlying26
  have hu31 := Try.underlying31
  have HR0_0 := Aside0.mk hr0_0
  have HC0_0 := Aside0.mk hc0_0
  clear hr0_0 hc0_0
  have E1 := Aside0.mk hE1
  clear hE1
  have d_z4 : decide (z4 < 0) = true := decide_eq_true hz4_no
  clear hz4_no
  have HB := Aside0.mk (Below.refl w.heap.size w)
  obtain ⟨n0, hn0⟩ : ∃ n_, n_ = w.heap.size := ⟨_, rfl⟩
  have HZ := Aside0.mk (Nat.le_of_eq hn0 : n0 ≤ w.heap.size)
  clear hn0
  go_enter Try.func3, Try.ntmps3
  go_wp2_with (first | ((with_reducible refine gate_dst (N := 2) rfl ?_); refine box_event ?hg (N := 2) ?hd (cs := #[.slice A0_0 l0_0.length c0_0]) (t := 24) ?hr ?_; (case hd => rfl); (case hg => rfl); (case hr => first | (go_simp; done) | (go_simp; rfl)); intro gb2 hg_ w3001 hbox hb; have mB_ := Aside0.mk (below_step (by (repeat (first | (with_reducible first | exact HB.out | apply below_alloc | apply pw_below_drewN | apply below_drew1) | exact HB.out))) hb); have mL_ := Aside0.mk (by (repeat (first | exact HZ.out | (with_reducible first | apply sz_alloc | apply sz_drewN | apply sz_drew | apply sz_set))) : n0 ≤ _); obtain ⟨n1, hn_⟩ : ∃ n_, n_ = w3001.heap.size := ⟨_, rfl⟩; have mN_ := Aside0.mk (by rw [hn_]; exact Nat.le_trans mL_.out hb.size : n0 ≤ n1); have mZ_ := Aside0.mk (Nat.le_of_eq hn_ : n1 ≤ w3001.heap.size); have xBK2_ := Aside0.mk (hbox); have xGE2_ := Aside0.mk (by rw [hg_]; exact below_size (by (repeat (first | (with_reducible first | exact HB.out | apply below_alloc | apply pw_below_drewN | apply below_drew1) | exact HB.out))) : w.heap.size ≤ gb2); have xHI2_ := Aside0.mk (⟨by rw [hg_]; exact mL_.out, by rw [hn_]; exact blk_lt hbox⟩ : n0 ≤ gb2 ∧ gb2 < n1); clear HB HZ; have HB := mB_; have HZ := mZ_; have HN1 := mN_; have BK2 := xBK2_; have GE2 := xGE2_; have HI2 := xHI2_; clear mB_ mN_ mZ_ mL_ xBK2_ xGE2_ xHI2_; (try clear hn_); clear hb hbox hg_) | ((with_reducible refine gate_dst (N := 3) rfl ?_); refine box_event ?hg (N := 3) ?hd (cs := #[.int .i64 a1_0, .int .i64 a1_1, .int .i64 a1_2, .int .i64 a1_3]) (t := 26) ?hr ?_; (case hd => rfl); (case hg => rfl); (case hr => first | (go_simp; done) | (go_simp; rfl)); intro gb3 hg_ w3002 hbox hb; have m0_ := Aside0.mk (blk_below (g := gb2) (o := .cells #[.slice A0_0 l0_0.length c0_0] 24 (0, 0)) (by ((with_reducible repeat (first | refine blk_drewN ?_ _ | refine blk_drew ?_ | refine blk_alloc ?_ _)); exact BK2.out)) hb); have mB_ := Aside0.mk (below_step (by (repeat (first | (with_reducible first | exact HB.out | apply below_alloc | apply pw_below_drewN | apply below_drew1 | refine below_set ?_ GE2.out) | exact HB.out))) hb); have mL_ := Aside0.mk (by (repeat (first | exact HZ.out | (with_reducible first | apply sz_alloc | apply sz_drewN | apply sz_drew | apply sz_set))) : n1 ≤ _); obtain ⟨n2, hn_⟩ : ∃ n_, n_ = w3002.heap.size := ⟨_, rfl⟩; have mN_ := Aside0.mk (by rw [hn_]; exact Nat.le_trans mL_.out hb.size : n1 ≤ n2); have mZ_ := Aside0.mk (Nat.le_of_eq hn_ : n2 ≤ w3002.heap.size); have xBK3_ := Aside0.mk (hbox); have xGE3_ := Aside0.mk (by rw [hg_]; exact below_size (by (repeat (first | (with_reducible first | exact HB.out | apply below_alloc | apply pw_below_drewN | apply below_drew1 | refine below_set ?_ GE2.out) | exact HB.out))) : w.heap.size ≤ gb3); have xHI3_ := Aside0.mk (⟨by rw [hg_]; exact mL_.out, by rw [hn_]; exact blk_lt hbox⟩ : n1 ≤ gb3 ∧ gb3 < n2); clear BK2 HB HZ; have BK2 := m0_; have HB := mB_; have HZ := mZ_; have HN2 := mN_; have BK3 := xBK3_; have GE3 := xGE3_; have HI3 := xHI3_; clear m0_ mB_ mN_ mZ_ mL_ xBK3_ xGE3_ xHI3_; (try clear hn_); clear hb hbox hg_; have hc3_0 := (blk_cell BK2.out 0).trans (show (#[.slice A0_0 l0_0.length c0_0] : Array Value)[0]? = some (.slice A0_0 l0_0.length c0_0) from rfl); have hf3_0 := blk_frozen BK2.out 0) | ((with_reducible refine gate_callee (f := 12) rfl ?_); refine goesL_ (some 18) rfl rfl Try.func12 (by kernel_rfl) rfl #[.agg #[.slice A0_0 l0_0.length c0_0], .int .i64 1048576] rfl (by (try simp only [List.map_toArray, List.map_cons, List.map_nil]); first | done | rfl) ?_; (with_reducible refine (laws_szMemory.calls k _ _ l0_0 1048576 z4 _ ?sr0 ?sc0 E1.out).mono ?_); (case sr0 => exact Kd.C_below HR0_0.out (by (repeat (first | (with_reducible first | exact HB.out | apply below_alloc | apply pw_below_drewN | apply below_drew1 | refine below_set ?_ GE2.out | refine below_set ?_ GE3.out) | exact HB.out)))); (case sc0 => exact HC0_0.out); rintro e w1005 ⟨rfl, hb⟩; refine ⟨_, rfl, ?_⟩; have m0_ := Aside0.mk (blk_below (g := gb2) (o := .cells #[.slice A0_0 l0_0.length c0_0] 24 (0, 0)) (by ((with_reducible repeat (first | refine blk_drewN ?_ _ | refine blk_drew ?_ | refine blk_alloc ?_ _)); exact BK2.out)) hb); have m1_ := Aside0.mk (blk_below (g := gb3) (o := .cells #[.int .i64 a1_0, .int .i64 a1_1, .int .i64 a1_2, .int .i64 a1_3] 26 (0, 0)) (by ((with_reducible repeat (first | refine blk_drewN ?_ _ | refine blk_drew ?_ | refine blk_alloc ?_ _)); exact BK3.out)) hb); have mB_ := Aside0.mk (below_step (by (repeat (first | (with_reducible first | exact HB.out | apply below_alloc | apply pw_below_drewN | apply below_drew1 | refine below_set ?_ GE2.out | refine below_set ?_ GE3.out) | exact HB.out))) hb); have mL_ := Aside0.mk (by (repeat (first | exact HZ.out | (with_reducible first | apply sz_alloc | apply sz_drewN | apply sz_drew | apply sz_set))) : n2 ≤ _); obtain ⟨n3, hn_⟩ : ∃ n_, n_ = w1005.heap.size := ⟨_, rfl⟩; have mN_ := Aside0.mk (by rw [hn_]; exact Nat.le_trans mL_.out hb.size : n2 ≤ n3); have mZ_ := Aside0.mk (Nat.le_of_eq hn_ : n3 ≤ w1005.heap.size); clear BK2 BK3 HB HZ; have BK2 := m0_; have BK3 := m1_; have HB := mB_; have HZ := mZ_; have HN3 := mN_; clear m0_ m1_ mB_ mN_ mZ_ mL_; (try clear hn_); clear hb))
  go_ret
  exact ⟨rfl, by (repeat (first | (with_reducible first | exact HB.out | apply below_alloc | apply pw_below_drewN | apply below_drew1 | refine below_set ?_ GE2.out | refine below_set ?_ GE3.out) | exact HB.out))⟩
set_option maxHeartbeats 8000000 in
set_option maxRecDepth 100000 in
theorem laws_FnExactWindowBytes.walk (k : Nat) (A0_0 : Option Addr) (c0_0 : Nat) (l0_0 : List (List Int)) (a1_0 : Int) (a1_1 : Int) (a1_2 : Int) (a1_3 : Int) (z4 : Int) (t8 : List (List Int)) (t15 : Int) (t16 : Int) (t17 : Int) (t18 : Int) (g20 : List Int) (ok21 : Bool) (s22 : List Int) (m46 : Int) (y47 : List (List Int)) (m50 : Int) (y51 : List Int) (w : World) (hr0_0 : Kd.C (Kd.slice 5 (Kd.int .u8)) w A0_0 l0_0.length l0_0) (hc0_0 : l0_0.length ≤ c0_0) (hE1 : laws_szMemory.f k l0_0 1048576 = some z4) (hE2 : laws_toMemory.f k l0_0 = some t8) (hE3 : laws_toWindow.f a1_0 a1_1 a1_2 a1_3 = some (t15, t16, t17, t18)) (hE4 : spec_WindowBytes.f k t8 t15 t16 t17 t18 = some (s22, ok21)) (hE7 : impl_WindowBytes.f k t8 t15 t16 t17 t18 = some (g20, ok21)) (hE8 : laws_eqByteS.f k g20 s22 = some true) (hE10 : laws_eqMemory.f k t8 t8 = some true) (hE11 : laws_markMemory.f k t8 1 = some (m46, y47)) (hE13 : laws_markByteS.f k g20 1 = some (m50, y51)) (hE14 : laws_heldByteS.f k y51 1 = some m50) (hz4_no : ¬ z4 < 0) (hm46_no : ¬ m46 < 0) (hm50_no : ¬ m50 < 0) :
    Calls Try.prog 3 #[.agg #[.slice A0_0 l0_0.length c0_0], .agg #[.int .i64 a1_0, .int .i64 a1_1, .int .i64 a1_2, .int .i64 a1_3]] w fun e w' => e = .returned (.bool true) ∧ Below w.heap.size w w' := by
  have hu24 := Try.underlying24
  have hu26 := Try.underlying26
  have hu31 := Try.underlying31
  have HR0_0 := Aside0.mk hr0_0
  have HC0_0 := Aside0.mk hc0_0
  clear hr0_0 hc0_0
  have E1 := Aside0.mk hE1
  clear hE1
  have E2 := Aside0.mk hE2
  clear hE2
  have E3 := Aside0.mk hE3
  clear hE3
  have E4 := Aside0.mk hE4
  clear hE4
  have E7 := Aside0.mk hE7
  clear hE7
  have E8 := Aside0.mk hE8
  clear hE8
  have E10 := Aside0.mk hE10
  clear hE10
  have E11 := Aside0.mk hE11
  clear hE11
  have E13 := Aside0.mk hE13
  clear hE13
  have E14 := Aside0.mk hE14
  clear hE14
  have d_z4 : decide (z4 < 0) = false := decide_eq_false hz4_no
  clear hz4_no
  have d_m46 : decide (m46 < 0) = false := decide_eq_false hm46_no
  clear hm46_no
  have d_m50 : decide (m50 < 0) = false := decide_eq_false hm50_no
  clear hm50_no
  have b_ok21 : (ok21 != ok21) = false := by cases ok21 <;> rfl
  have HB := Aside0.mk (Below.refl w.heap.size w)
  obtain ⟨n0, hn0⟩ : ∃ n_, n_ = w.heap.size := ⟨_, rfl⟩
  have HZ := Aside0.mk (Nat.le_of_eq hn0 : n0 ≤ w.heap.size)
  clear hn0
  go_enter Try.func3, Try.ntmps3
  go_upto_region 5 with (first | ((with_reducible refine gate_dst (N := 2) rfl ?_); refine box_event ?hg (N := 2) ?hd (cs := #[.slice A0_0 l0_0.length c0_0]) (t := 24) ?hr ?_; (case hd => rfl); (case hg => rfl); (case hr => first | (go_simp; done) | (go_simp; rfl)); intro gb2 hg_ w3001 hbox hb; have mB_ := Aside0.mk (below_step (by (repeat (first | (with_reducible first | exact HB.out | apply below_alloc | apply pw_below_drewN | apply below_drew1) | exact HB.out))) hb); have mL_ := Aside0.mk (by (repeat (first | exact HZ.out | (with_reducible first | apply sz_alloc | apply sz_drewN | apply sz_drew | apply sz_set))) : n0 ≤ _); obtain ⟨n1, hn_⟩ : ∃ n_, n_ = w3001.heap.size := ⟨_, rfl⟩; have mN_ := Aside0.mk (by rw [hn_]; exact Nat.le_trans mL_.out hb.size : n0 ≤ n1); have mZ_ := Aside0.mk (Nat.le_of_eq hn_ : n1 ≤ w3001.heap.size); have xBK2_ := Aside0.mk (hbox); have xGE2_ := Aside0.mk (by rw [hg_]; exact below_size (by (repeat (first | (with_reducible first | exact HB.out | apply below_alloc | apply pw_below_drewN | apply below_drew1) | exact HB.out))) : w.heap.size ≤ gb2); have xHI2_ := Aside0.mk (⟨by rw [hg_]; exact mL_.out, by rw [hn_]; exact blk_lt hbox⟩ : n0 ≤ gb2 ∧ gb2 < n1); clear HB HZ; have HB := mB_; have HZ := mZ_; have HN1 := mN_; have BK2 := xBK2_; have GE2 := xGE2_; have HI2 := xHI2_; clear mB_ mN_ mZ_ mL_ xBK2_ xGE2_ xHI2_; (try clear hn_); clear hb hbox hg_) | ((with_reducible refine gate_dst (N := 3) rfl ?_); refine box_event ?hg (N := 3) ?hd (cs := #[.int .i64 a1_0, .int .i64 a1_1, .int .i64 a1_2, .int .i64 a1_3]) (t := 26) ?hr ?_; (case hd => rfl); (case hg => rfl); (case hr => first | (go_simp; done) | (go_simp; rfl)); intro gb3 hg_ w3002 hbox hb; have m0_ := Aside0.mk (blk_below (g := gb2) (o := .cells #[.slice A0_0 l0_0.length c0_0] 24 (0, 0)) (by ((with_reducible repeat (first | refine blk_drewN ?_ _ | refine blk_drew ?_ | refine blk_alloc ?_ _)); exact BK2.out)) hb); have mB_ := Aside0.mk (below_step (by (repeat (first | (with_reducible first | exact HB.out | apply below_alloc | apply pw_below_drewN | apply below_drew1 | refine below_set ?_ GE2.out) | exact HB.out))) hb); have mL_ := Aside0.mk (by (repeat (first | exact HZ.out | (with_reducible first | apply sz_alloc | apply sz_drewN | apply sz_drew | apply sz_set))) : n1 ≤ _); obtain ⟨n2, hn_⟩ : ∃ n_, n_ = w3002.heap.size := ⟨_, rfl⟩; have mN_ := Aside0.mk (by rw [hn_]; exact Nat.le_trans mL_.out hb.size : n1 ≤ n2); have mZ_ := Aside0.mk (Nat.le_of_eq hn_ : n2 ≤ w3002.heap.size); have xBK3_ := Aside0.mk (hbox); have xGE3_ := Aside0.mk (by rw [hg_]; exact below_size (by (repeat (first | (with_reducible first | exact HB.out | apply below_alloc | apply pw_below_drewN | apply below_drew1 | refine below_set ?_ GE2.out) | exact HB.out))) : w.heap.size ≤ gb3); have xHI3_ := Aside0.mk (⟨by rw [hg_]; exact mL_.out, by rw [hn_]; exact blk_lt hbox⟩ : n1 ≤ gb3 ∧ gb3 < n2); clear BK2 HB HZ; have BK2 := m0_; have HB := mB_; have HZ := mZ_; have HN2 := mN_; have BK3 := xBK3_; have GE3 := xGE3_; have HI3 := xHI3_; clear m0_ mB_ mN_ mZ_ mL_ xBK3_ xGE3_ xHI3_; (try clear hn_); clear hb hbox hg_; have hc3_0 := (blk_cell BK2.out 0).trans (show (#[.slice A0_0 l0_0.length c0_0] : Array Value)[0]? = some (.slice A0_0 l0_0.length c0_0) from rfl); have hf3_0 := blk_frozen BK2.out 0) | ((with_reducible refine gate_callee (f := 12) rfl ?_); refine goesL_ (some 18) rfl rfl Try.func12 (by kernel_rfl) rfl #[.agg #[.slice A0_0 l0_0.length c0_0], .int .i64 1048576] rfl (by (try simp only [List.map_toArray, List.map_cons, List.map_nil]); first | done | rfl) ?_; (with_reducible refine (laws_szMemory.calls k _ _ l0_0 1048576 z4 _ ?sr0 ?sc0 E1.out).mono ?_); (case sr0 => exact Kd.C_below HR0_0.out (by (repeat (first | (with_reducible first | exact HB.out | apply below_alloc | apply pw_below_drewN | apply below_drew1 | refine below_set ?_ GE2.out | refine below_set ?_ GE3.out) | exact HB.out)))); (case sc0 => exact HC0_0.out); rintro e w1005 ⟨rfl, hb⟩; refine ⟨_, rfl, ?_⟩; have m0_ := Aside0.mk (blk_below (g := gb2) (o := .cells #[.slice A0_0 l0_0.length c0_0] 24 (0, 0)) (by ((with_reducible repeat (first | refine blk_drewN ?_ _ | refine blk_drew ?_ | refine blk_alloc ?_ _)); exact BK2.out)) hb); have m1_ := Aside0.mk (blk_below (g := gb3) (o := .cells #[.int .i64 a1_0, .int .i64 a1_1, .int .i64 a1_2, .int .i64 a1_3] 26 (0, 0)) (by ((with_reducible repeat (first | refine blk_drewN ?_ _ | refine blk_drew ?_ | refine blk_alloc ?_ _)); exact BK3.out)) hb); have mB_ := Aside0.mk (below_step (by (repeat (first | (with_reducible first | exact HB.out | apply below_alloc | apply pw_below_drewN | apply below_drew1 | refine below_set ?_ GE2.out | refine below_set ?_ GE3.out) | exact HB.out))) hb); have mL_ := Aside0.mk (by (repeat (first | exact HZ.out | (with_reducible first | apply sz_alloc | apply sz_drewN | apply sz_drew | apply sz_set))) : n2 ≤ _); obtain ⟨n3, hn_⟩ : ∃ n_, n_ = w1005.heap.size := ⟨_, rfl⟩; have mN_ := Aside0.mk (by rw [hn_]; exact Nat.le_trans mL_.out hb.size : n2 ≤ n3); have mZ_ := Aside0.mk (Nat.le_of_eq hn_ : n3 ≤ w1005.heap.size); clear BK2 BK3 HB HZ; have BK2 := m0_; have BK3 := m1_; have HB := mB_; have HZ := mZ_; have HN3 := mN_; clear m0_ m1_ mB_ mN_ mZ_ mL_; (try clear hn_); clear hb))
  try go_wp2
  have m0_ := Aside0.mk (show (World.drew w1005).heap[gb2]? = some (Obj.cells #[.slice A0_0 l0_0.length c0_0] 24 (0, 0)) from blk_drew (by ((with_reducible repeat (first | refine blk_drewN ?_ _ | refine blk_drew ?_ | refine blk_alloc ?_ _)); exact BK2.out)))
  have m1_ := Aside0.mk (show (World.drew w1005).heap[gb3]? = some (Obj.cells #[.int .i64 a1_0, .int .i64 a1_1, .int .i64 a1_2, .int .i64 a1_3] 26 (0, 0)) from blk_drew (by ((with_reducible repeat (first | refine blk_drewN ?_ _ | refine blk_drew ?_ | refine blk_alloc ?_ _)); exact BK3.out)))
  have m2_ := Aside0.mk (show Below w.heap.size w w1005.drew from below_drew1 (by (repeat (first | (with_reducible first | exact HB.out | apply below_alloc | apply pw_below_drewN | apply below_drew1 | refine below_set ?_ GE2.out | refine below_set ?_ GE3.out) | exact HB.out))))
  have m3_ := Aside0.mk (show n3 ≤ w1005.drew.heap.size from sz_drew (by (repeat (first | exact HZ.out | (with_reducible first | apply sz_alloc | apply sz_drewN | apply sz_drew | apply sz_set)))))
  clear BK2 BK3 HB HZ
  have BK2 := m0_
  have BK3 := m1_
  have HB := m2_
  have HZ := m3_
  clear m0_ m1_ m2_ m3_
  refine start_ (n := 10) (S := fun w' => w'.cell? ⟨gb2, 0, none⟩ = some (.slice A0_0 l0_0.length c0_0) ∧ w'.cell? ⟨gb3, 0, none⟩ = some (.int .i64 a1_0) ∧ w'.cell? ⟨gb3, 1, none⟩ = some (.int .i64 a1_1) ∧ w'.cell? ⟨gb3, 2, none⟩ = some (.int .i64 a1_2) ∧ w'.cell? ⟨gb3, 3, none⟩ = some (.int .i64 a1_3)) (ds := []) #[false, false, false, false, false, false, false, false, false, false] (by kernel_rfl) rfl rfl ⟨(blk_cell BK2.out 0).trans rfl, (blk_cell BK3.out 0).trans rfl, (blk_cell BK3.out 1).trans rfl, (blk_cell BK3.out 2).trans rfl, (blk_cell BK3.out 3).trans rfl⟩ (fun hHeld => ?_)
  generalize w1005.drew = w2006 at BK2 BK3 HB HZ hHeld ⊢
  refine take_ (i := 0) (N := some 22) (v := ?_) (a' := ?_) #[true, false, false, false, false, false, false, false, false, false] rfl rfl (by kernel_rfl) (fun _ _ _ h => h) (Or.inl ⟨by rfl, ?_⟩) hHeld ?_ ?_
  rotate_left
  · rintro w' ⟨s0_, s1_, s2_, s3_, s4_⟩
    go_simp
    with_reducible rfl
  rotate_left
  · simp only [Act.put, List.setIfInBounds_toArray, List.set_cons_zero, List.set_cons_succ, i64_w, i32_w]
    rfl
  refine take_ (i := 2) (N := some 24) (v := ?_) (a' := ?_) #[true, false, true, false, false, false, false, false, false, false] rfl rfl (by kernel_rfl) (fun _ _ _ h => h) (Or.inl ⟨by rfl, ?_⟩) hHeld ?_ ?_
  rotate_left
  · rintro w' ⟨s0_, s1_, s2_, s3_, s4_⟩
    go_simp
    with_reducible rfl
  rotate_left
  · simp only [Act.put, List.setIfInBounds_toArray, List.set_cons_zero, List.set_cons_succ, i64_w, i32_w]
    rfl
  refine one_ (i := 1) (N := some 23) #[true, true, true, false, false, false, false, false, false, false] rfl rfl (by kernel_rfl) (by decide) (fun K hK => ?_)
  refine goes_ Try.func14 (by kernel_rfl) rfl #[.agg #[.slice A0_0 l0_0.length c0_0]] (by rfl) rfl rfl (by (try simp only [List.map_toArray, List.map_cons, List.map_nil]); first | done | rfl | (simp only [List.length_drop, List.length_take]; rfl)) ?_
  (with_reducible refine (laws_toMemory.calls k _ _ l0_0 t8 _ ?sr0 ?sc0 E2.out).mono ?_)
  (case sr0 => exact Kd.C_below HR0_0.out (by (repeat (first | (with_reducible first | exact HB.out | apply below_alloc | apply pw_below_drewN | apply below_drew1 | refine below_set ?_ GE2.out | refine below_set ?_ GE3.out) | exact HB.out))))
  (case sc0 => exact HC0_0.out)
  rintro e w1010 ⟨v2_0, rfl, ho0_, hb⟩
  refine ⟨_, rfl, ?_⟩
  have m0_ := Aside0.mk (blk_below (g := gb2) (o := .cells #[.slice A0_0 l0_0.length c0_0] 24 (0, 0)) (by ((with_reducible repeat (first | refine blk_drewN ?_ _ | refine blk_drew ?_ | refine blk_alloc ?_ _)); exact BK2.out)) hb)
  have m1_ := Aside0.mk (blk_below (g := gb3) (o := .cells #[.int .i64 a1_0, .int .i64 a1_1, .int .i64 a1_2, .int .i64 a1_3] 26 (0, 0)) (by ((with_reducible repeat (first | refine blk_drewN ?_ _ | refine blk_drew ?_ | refine blk_alloc ?_ _)); exact BK3.out)) hb)
  have mB_ := Aside0.mk (below_step (by (repeat (first | (with_reducible first | exact HB.out | apply below_alloc | apply pw_below_drewN | apply below_drew1 | refine below_set ?_ GE2.out | refine below_set ?_ GE3.out) | exact HB.out))) hb)
  have mL_ := Aside0.mk (by (repeat (first | exact HZ.out | (with_reducible first | apply sz_alloc | apply sz_drewN | apply sz_drew | apply sz_set))) : n3 ≤ _)
  obtain ⟨n4, hn_⟩ : ∃ n_, n_ = w1010.heap.size := ⟨_, rfl⟩
  have mN_ := Aside0.mk (by rw [hn_]; exact Nat.le_trans mL_.out hb.size : n3 ≤ n4)
  have mZ_ := Aside0.mk (Nat.le_of_eq hn_ : n4 ≤ w1010.heap.size)
  have xHO10_ := Aside0.mk (show Kd.S (Kd.slice 5 (Kd.int .u8)) 28 w1010 w.heap.size (fun k_ => n3 ≤ k_ ∧ k_ < n4) _ t8 from Kd.S_mono (Kd.S_lower (Kd.S_bound ho0_) (below_size (by (repeat (first | (with_reducible first | exact HB.out | apply below_alloc | apply pw_below_drewN | apply below_drew1 | refine below_set ?_ GE2.out | refine below_set ?_ GE3.out) | exact HB.out))))) (fun k_ hk_ => ⟨Nat.le_trans mL_.out hk_.2.1, by rw [hn_]; exact hk_.2.2.1⟩))
  clear BK2 BK3 HB HZ
  have BK2 := m0_
  have BK3 := m1_
  have HB := mB_
  have HZ := mZ_
  have HN4 := mN_
  have HO10 := xHO10_
  clear m0_ m1_ mB_ mN_ mZ_ mL_ xHO10_
  (try clear hn_)
  clear hb ho0_
  obtain ⟨Ao10, co10, eo_⟩ := Kd.S_slice HO10.out; subst eo_
  refine hK.out _ _ ⟨(blk_cell BK2.out 0).trans rfl, (blk_cell BK3.out 0).trans rfl, (blk_cell BK3.out 1).trans rfl, (blk_cell BK3.out 2).trans rfl, (blk_cell BK3.out 3).trans rfl⟩ (fun hHeld => ?_)
  clear hK K
  refine norm_ (a' := ?_) ?_ ?_
  rotate_left
  · show Act.put _ (some 23) _ = _
    simp only [Act.put, List.setIfInBounds_toArray, List.set_cons_zero, List.set_cons_succ, i64_w, i32_w]
    rfl
  refine one_ (i := 3) (N := some 25) #[true, true, true, true, false, false, false, false, false, false] rfl rfl (by kernel_rfl) (by decide) (fun K hK => ?_)
  refine goes_ Try.func15 (by kernel_rfl) rfl #[.agg #[.int .i64 a1_0, .int .i64 a1_1, .int .i64 a1_2, .int .i64 a1_3]] (by rfl) rfl rfl (by (try simp only [List.map_toArray, List.map_cons, List.map_nil]); first | done | rfl | (simp only [List.length_drop, List.length_take]; rfl)) ?_
  (with_reducible refine (laws_toWindow.calls a1_0 a1_1 a1_2 a1_3 t15 t16 t17 t18 _ E3.out).mono ?_)
  rintro e w1021 ⟨rfl, hb⟩
  refine ⟨_, rfl, ?_⟩
  have m0_ := Aside0.mk (blk_below (g := gb2) (o := .cells #[.slice A0_0 l0_0.length c0_0] 24 (0, 0)) (by ((with_reducible repeat (first | refine blk_drewN ?_ _ | refine blk_drew ?_ | refine blk_alloc ?_ _)); exact BK2.out)) hb)
  have m1_ := Aside0.mk (blk_below (g := gb3) (o := .cells #[.int .i64 a1_0, .int .i64 a1_1, .int .i64 a1_2, .int .i64 a1_3] 26 (0, 0)) (by ((with_reducible repeat (first | refine blk_drewN ?_ _ | refine blk_drew ?_ | refine blk_alloc ?_ _)); exact BK3.out)) hb)
  have m2_ := Aside0.mk (Kd.S_below (by ((with_reducible repeat (first | apply Kd.S_alloc | apply Kd.S_drewN | apply Kd.S_drew)); exact HO10.out)) hb)
  have mB_ := Aside0.mk (below_step (by (repeat (first | (with_reducible first | exact HB.out | apply below_alloc | apply pw_below_drewN | apply below_drew1 | refine below_set ?_ GE2.out | refine below_set ?_ GE3.out) | exact HB.out))) hb)
  have mL_ := Aside0.mk (by (repeat (first | exact HZ.out | (with_reducible first | apply sz_alloc | apply sz_drewN | apply sz_drew | apply sz_set))) : n4 ≤ _)
  obtain ⟨n5, hn_⟩ : ∃ n_, n_ = w1021.heap.size := ⟨_, rfl⟩
  have mN_ := Aside0.mk (by rw [hn_]; exact Nat.le_trans mL_.out hb.size : n4 ≤ n5)
  have mZ_ := Aside0.mk (Nat.le_of_eq hn_ : n5 ≤ w1021.heap.size)
  clear BK2 BK3 HO10 HB HZ
  have BK2 := m0_
  have BK3 := m1_
  have HO10 := m2_
  have HB := mB_
  have HZ := mZ_
  have HN5 := mN_
  clear m0_ m1_ m2_ mB_ mN_ mZ_ mL_
  (try clear hn_)
  clear hb
  refine hK.out _ _ ⟨(blk_cell BK2.out 0).trans rfl, (blk_cell BK3.out 0).trans rfl, (blk_cell BK3.out 1).trans rfl, (blk_cell BK3.out 2).trans rfl, (blk_cell BK3.out 3).trans rfl⟩ (fun hHeld => ?_)
  clear hK K
  refine norm_ (a' := ?_) ?_ ?_
  rotate_left
  · show Act.put _ (some 25) _ = _
    simp only [Act.put, List.setIfInBounds_toArray, List.set_cons_zero, List.set_cons_succ, i64_w, i32_w]
    rfl
  refine one_ (i := 4) (N := some 26) #[true, true, true, true, true, false, false, false, false, false] rfl rfl (by kernel_rfl) (by decide) (fun K hK => ?_)
  refine goes_ Try.func13 (by kernel_rfl) rfl #[.agg #[.slice Ao10 t8.length co10], .agg #[.int .i64 t15, .int .i64 t16, .int .i64 t17, .int .i64 t18]] (by rfl) rfl rfl (by (try simp only [List.map_toArray, List.map_cons, List.map_nil]); first | done | rfl | (simp only [List.length_drop, List.length_take]; rfl)) ?_
  (with_reducible refine (spec_WindowBytes.calls k _ _ t8 t15 t16 t17 t18 s22 ok21 _ ?sr0 ?sc0 E4.out).mono ?_)
  (case sr0 => repeat (first | exact (Kd.S_reads' HO10.out).2.2 | (with_reducible refine Kd.C_alloc ?_ _) | (with_reducible refine Kd.C_drewN ?_ _) | (with_reducible refine Kd.C_drew ?_)))
  (case sc0 => first | exact (Kd.S_reads' HO10.out).2.1 | exact Nat.le_trans (Nat.le_of_eq (Kd.S_reads' HO10.out).1.symm) (Kd.S_reads' HO10.out).2.1)
  rintro e w1026 ⟨v4_0, rfl, ho0_, hb⟩
  refine ⟨_, rfl, ?_⟩
  have m0_ := Aside0.mk (blk_below (g := gb2) (o := .cells #[.slice A0_0 l0_0.length c0_0] 24 (0, 0)) (by ((with_reducible repeat (first | refine blk_drewN ?_ _ | refine blk_drew ?_ | refine blk_alloc ?_ _)); exact BK2.out)) hb)
  have m1_ := Aside0.mk (blk_below (g := gb3) (o := .cells #[.int .i64 a1_0, .int .i64 a1_1, .int .i64 a1_2, .int .i64 a1_3] 26 (0, 0)) (by ((with_reducible repeat (first | refine blk_drewN ?_ _ | refine blk_drew ?_ | refine blk_alloc ?_ _)); exact BK3.out)) hb)
  have m2_ := Aside0.mk (Kd.S_below (by ((with_reducible repeat (first | apply Kd.S_alloc | apply Kd.S_drewN | apply Kd.S_drew)); exact HO10.out)) hb)
  have mB_ := Aside0.mk (below_step (by (repeat (first | (with_reducible first | exact HB.out | apply below_alloc | apply pw_below_drewN | apply below_drew1 | refine below_set ?_ GE2.out | refine below_set ?_ GE3.out) | exact HB.out))) hb)
  have mL_ := Aside0.mk (by (repeat (first | exact HZ.out | (with_reducible first | apply sz_alloc | apply sz_drewN | apply sz_drew | apply sz_set))) : n5 ≤ _)
  obtain ⟨n6, hn_⟩ : ∃ n_, n_ = w1026.heap.size := ⟨_, rfl⟩
  have mN_ := Aside0.mk (by rw [hn_]; exact Nat.le_trans mL_.out hb.size : n5 ≤ n6)
  have mZ_ := Aside0.mk (Nat.le_of_eq hn_ : n6 ≤ w1026.heap.size)
  have xHO24_ := Aside0.mk (show Kd.R (Kd.int .u8) 5 w1026 w.heap.size (fun k_ => n5 ≤ k_ ∧ k_ < n6) _ s22 from Kd.R_mono (Kd.R_lower (Kd.R_bound ho0_) (below_size (by (repeat (first | (with_reducible first | exact HB.out | apply below_alloc | apply pw_below_drewN | apply below_drew1 | refine below_set ?_ GE2.out | refine below_set ?_ GE3.out) | exact HB.out))))) (fun k_ hk_ => ⟨Nat.le_trans mL_.out hk_.2.1, by rw [hn_]; exact hk_.2.2.1⟩))
  clear BK2 BK3 HO10 HB HZ
  have BK2 := m0_
  have BK3 := m1_
  have HO10 := m2_
  have HB := mB_
  have HZ := mZ_
  have HN6 := mN_
  have HO24 := xHO24_
  clear m0_ m1_ m2_ mB_ mN_ mZ_ mL_ xHO24_
  (try clear hn_)
  clear hb ho0_
  obtain ⟨Ao24, co24, eo_⟩ := Kd.R_slice HO24.out; subst eo_
  refine hK.out _ _ ⟨(blk_cell BK2.out 0).trans rfl, (blk_cell BK3.out 0).trans rfl, (blk_cell BK3.out 1).trans rfl, (blk_cell BK3.out 2).trans rfl, (blk_cell BK3.out 3).trans rfl⟩ (fun hHeld => ?_)
  clear hK K
  refine norm_ (a' := ?_) ?_ ?_
  rotate_left
  · show Act.put _ (some 26) _ = _
    simp only [Act.put, List.setIfInBounds_toArray, List.set_cons_zero, List.set_cons_succ, i64_w, i32_w]
    rfl
  refine pure_ (i := 5) (N := some 21) (v := ?_) (a' := ?_) #[true, true, true, true, true, true, false, false, false, false] rfl rfl (by kernel_rfl) (fun _ _ _ h => h) (Or.inl ⟨by rfl, ?_⟩) ?_ ?_
  rotate_left
  · intro w'
    go_simp
    with_reducible rfl
  rotate_left
  · simp only [Act.put, List.setIfInBounds_toArray, List.set_cons_zero, List.set_cons_succ, i64_w, i32_w]
    rfl
  refine pure_ (i := 6) (N := some 27) (v := ?_) (a' := ?_) #[true, true, true, true, true, true, true, false, false, false] rfl rfl (by kernel_rfl) (fun _ _ _ h => h) (Or.inl ⟨by rfl, ?_⟩) ?_ ?_
  rotate_left
  · intro w'
    go_simp
    with_reducible rfl
  rotate_left
  · simp only [Act.put, List.setIfInBounds_toArray, List.set_cons_zero, List.set_cons_succ, i64_w, i32_w]
    rfl
  refine pure_ (i := 7) (N := some 28) (v := ?_) (a' := ?_) #[true, true, true, true, true, true, true, true, false, false] rfl rfl (by kernel_rfl) (fun _ _ _ h => h) (Or.inl ⟨by rfl, ?_⟩) ?_ ?_
  rotate_left
  · intro w'
    go_simp
    with_reducible rfl
  rotate_left
  · simp only [Act.put, List.setIfInBounds_toArray, List.set_cons_zero, List.set_cons_succ, i64_w, i32_w]
    rfl
  refine pure_ (i := 8) (N := some 6) (v := ?_) (a' := ?_) #[true, true, true, true, true, true, true, true, true, false] rfl rfl (by kernel_rfl) (fun _ _ _ h => h) (Or.inl ⟨by rfl, ?_⟩) ?_ ?_
  rotate_left
  · intro w'
    go_simp
    with_reducible rfl
  rotate_left
  · simp only [Act.put, List.setIfInBounds_toArray, List.set_cons_zero, List.set_cons_succ, i64_w, i32_w]
    rfl
  refine pure_ (i := 9) (N := some 7) (v := ?_) (a' := ?_) #[true, true, true, true, true, true, true, true, true, true] rfl rfl (by kernel_rfl) (fun _ _ _ h => h) (Or.inl ⟨by rfl, ?_⟩) ?_ ?_
  rotate_left
  · intro w'
    go_simp
    with_reducible rfl
  rotate_left
  · simp only [Act.put, List.setIfInBounds_toArray, List.set_cons_zero, List.set_cons_succ, i64_w, i32_w]
    rfl
  refine done_ (by kernel_rfl) ?_
  have hc25_0 := (blk_cell BK2.out 0).trans (show (#[.slice A0_0 l0_0.length c0_0] : Array Value)[0]? = some (.slice A0_0 l0_0.length c0_0) from rfl)
  have hf25_0 := blk_frozen BK2.out 0
  go_upto_region 7 with (first | ((with_reducible refine gate_callee (f := 14) rfl ?_); refine goesL_ (some 30) rfl rfl Try.func14 (by kernel_rfl) rfl #[.agg #[.slice A0_0 l0_0.length c0_0]] rfl (by (try simp only [List.map_toArray, List.map_cons, List.map_nil]); first | done | rfl) ?_; (with_reducible refine (laws_toMemory.calls k _ _ l0_0 t8 _ ?sr0 ?sc0 E2.out).mono ?_); (case sr0 => exact Kd.C_below HR0_0.out (by (repeat (first | (with_reducible first | exact HB.out | apply below_alloc | apply pw_below_drewN | apply below_drew1 | refine below_set ?_ GE2.out | refine below_set ?_ GE3.out) | exact HB.out)))); (case sc0 => exact HC0_0.out); rintro e w1031 ⟨v5_0, rfl, ho0_, hb⟩; refine ⟨_, rfl, ?_⟩; have m0_ := Aside0.mk (blk_below (g := gb2) (o := .cells #[.slice A0_0 l0_0.length c0_0] 24 (0, 0)) (by ((with_reducible repeat (first | refine blk_drewN ?_ _ | refine blk_drew ?_ | refine blk_alloc ?_ _)); exact BK2.out)) hb); have m1_ := Aside0.mk (blk_below (g := gb3) (o := .cells #[.int .i64 a1_0, .int .i64 a1_1, .int .i64 a1_2, .int .i64 a1_3] 26 (0, 0)) (by ((with_reducible repeat (first | refine blk_drewN ?_ _ | refine blk_drew ?_ | refine blk_alloc ?_ _)); exact BK3.out)) hb); have m2_ := Aside0.mk (Kd.S_below (by ((with_reducible repeat (first | apply Kd.S_alloc | apply Kd.S_drewN | apply Kd.S_drew)); exact HO10.out)) hb); have m3_ := Aside0.mk (Kd.R_below (by ((with_reducible repeat (first | apply Kd.R_alloc | apply Kd.R_drewN | apply Kd.R_drew)); exact HO24.out)) hb); have mB_ := Aside0.mk (below_step (by (repeat (first | (with_reducible first | exact HB.out | apply below_alloc | apply pw_below_drewN | apply below_drew1 | refine below_set ?_ GE2.out | refine below_set ?_ GE3.out) | exact HB.out))) hb); have mL_ := Aside0.mk (by (repeat (first | exact HZ.out | (with_reducible first | apply sz_alloc | apply sz_drewN | apply sz_drew | apply sz_set))) : n6 ≤ _); obtain ⟨n7, hn_⟩ : ∃ n_, n_ = w1031.heap.size := ⟨_, rfl⟩; have mN_ := Aside0.mk (by rw [hn_]; exact Nat.le_trans mL_.out hb.size : n6 ≤ n7); have mZ_ := Aside0.mk (Nat.le_of_eq hn_ : n7 ≤ w1031.heap.size); have xHO28_ := Aside0.mk (show Kd.S (Kd.slice 5 (Kd.int .u8)) 28 w1031 w.heap.size (fun k_ => n6 ≤ k_ ∧ k_ < n7) _ t8 from Kd.S_mono (Kd.S_lower (Kd.S_bound ho0_) (below_size (by (repeat (first | (with_reducible first | exact HB.out | apply below_alloc | apply pw_below_drewN | apply below_drew1 | refine below_set ?_ GE2.out | refine below_set ?_ GE3.out) | exact HB.out))))) (fun k_ hk_ => ⟨Nat.le_trans mL_.out hk_.2.1, by rw [hn_]; exact hk_.2.2.1⟩)); clear BK2 BK3 HO10 HO24 HB HZ; have BK2 := m0_; have BK3 := m1_; have HO10 := m2_; have HO24 := m3_; have HB := mB_; have HZ := mZ_; have HN7 := mN_; have HO28 := xHO28_; clear m0_ m1_ m2_ m3_ mB_ mN_ mZ_ mL_ xHO28_; (try clear hn_); clear hb ho0_; obtain ⟨Ao28, co28, eo_⟩ := Kd.S_slice HO28.out; subst eo_) | ((with_reducible refine gate_dst (N := 8) rfl ?_); refine box_event ?hg (N := 8) ?hd (cs := #[.slice none 0 0]) (t := 31) ?hr ?_; (case hd => rfl); (case hg => rfl); (case hr => first | (go_simp; done) | (go_simp; rfl)); intro gb8 hg_ w3029 hbox hb; have m0_ := Aside0.mk (blk_below (g := gb2) (o := .cells #[.slice A0_0 l0_0.length c0_0] 24 (0, 0)) (by ((with_reducible repeat (first | refine blk_drewN ?_ _ | refine blk_drew ?_ | refine blk_alloc ?_ _)); exact BK2.out)) hb); have m1_ := Aside0.mk (blk_below (g := gb3) (o := .cells #[.int .i64 a1_0, .int .i64 a1_1, .int .i64 a1_2, .int .i64 a1_3] 26 (0, 0)) (by ((with_reducible repeat (first | refine blk_drewN ?_ _ | refine blk_drew ?_ | refine blk_alloc ?_ _)); exact BK3.out)) hb); have m2_ := Aside0.mk (Kd.S_below (by ((with_reducible repeat (first | apply Kd.S_alloc | apply Kd.S_drewN | apply Kd.S_drew)); exact HO10.out)) hb); have m3_ := Aside0.mk (Kd.R_below (by ((with_reducible repeat (first | apply Kd.R_alloc | apply Kd.R_drewN | apply Kd.R_drew)); exact HO24.out)) hb); have m4_ := Aside0.mk (Kd.S_below (by ((with_reducible repeat (first | apply Kd.S_alloc | apply Kd.S_drewN | apply Kd.S_drew)); exact HO28.out)) hb); have mB_ := Aside0.mk (below_step (by (repeat (first | (with_reducible first | exact HB.out | apply below_alloc | apply pw_below_drewN | apply below_drew1 | refine below_set ?_ GE2.out | refine below_set ?_ GE3.out) | exact HB.out))) hb); have mL_ := Aside0.mk (by (repeat (first | exact HZ.out | (with_reducible first | apply sz_alloc | apply sz_drewN | apply sz_drew | apply sz_set))) : n7 ≤ _); obtain ⟨n8, hn_⟩ : ∃ n_, n_ = w3029.heap.size := ⟨_, rfl⟩; have mN_ := Aside0.mk (by rw [hn_]; exact Nat.le_trans mL_.out hb.size : n7 ≤ n8); have mZ_ := Aside0.mk (Nat.le_of_eq hn_ : n8 ≤ w3029.heap.size); have xBK8_ := Aside0.mk (hbox); have xGE8_ := Aside0.mk (by rw [hg_]; exact below_size (by (repeat (first | (with_reducible first | exact HB.out | apply below_alloc | apply pw_below_drewN | apply below_drew1 | refine below_set ?_ GE2.out | refine below_set ?_ GE3.out) | exact HB.out))) : w.heap.size ≤ gb8); have xHI8_ := Aside0.mk (⟨by rw [hg_]; exact mL_.out, by rw [hn_]; exact blk_lt hbox⟩ : n7 ≤ gb8 ∧ gb8 < n8); clear BK2 BK3 HO10 HO24 HO28 HB HZ; have BK2 := m0_; have BK3 := m1_; have HO10 := m2_; have HO24 := m3_; have HO28 := m4_; have HB := mB_; have HZ := mZ_; have HN8 := mN_; have BK8 := xBK8_; have GE8 := xGE8_; have HI8 := xHI8_; clear m0_ m1_ m2_ m3_ m4_ mB_ mN_ mZ_ mL_ xBK8_ xGE8_ xHI8_; (try clear hn_); clear hb hbox hg_; have hc30_0 := (blk_cell BK8.out 0).trans (show (#[.slice none 0 0] : Array Value)[0]? = some (.slice none 0 0) from rfl); have hf30_0 := blk_frozen BK8.out 0))
  try go_wp2
  have m0_ := Aside0.mk (show (World.drew (w3029.setCell ⟨gb8, 0, none⟩ (.slice Ao28 t8.length co28))).heap[gb2]? = some (Obj.cells #[.slice A0_0 l0_0.length c0_0] 24 (0, 0)) from blk_drew (by ((with_reducible repeat (first | refine blk_drewN ?_ _ | refine blk_drew ?_ | refine blk_alloc ?_ _)); refine blk_far ?_ (by show gb2 ≠ gb8; have h1_ := HI2.out; have h2_ := HI8.out; have q1_ := HN1.out; have q2_ := HN2.out; have q3_ := HN3.out; have q4_ := HN4.out; have q5_ := HN5.out; have q6_ := HN6.out; have q7_ := HN7.out; have q8_ := HN8.out; omega) _; (with_reducible repeat (first | refine blk_drewN ?_ _ | refine blk_drew ?_ | refine blk_alloc ?_ _)); exact BK2.out)))
  have m1_ := Aside0.mk (show (World.drew (w3029.setCell ⟨gb8, 0, none⟩ (.slice Ao28 t8.length co28))).heap[gb3]? = some (Obj.cells #[.int .i64 a1_0, .int .i64 a1_1, .int .i64 a1_2, .int .i64 a1_3] 26 (0, 0)) from blk_drew (by ((with_reducible repeat (first | refine blk_drewN ?_ _ | refine blk_drew ?_ | refine blk_alloc ?_ _)); refine blk_far ?_ (by show gb3 ≠ gb8; have h1_ := HI3.out; have h2_ := HI8.out; have q1_ := HN1.out; have q2_ := HN2.out; have q3_ := HN3.out; have q4_ := HN4.out; have q5_ := HN5.out; have q6_ := HN6.out; have q7_ := HN7.out; have q8_ := HN8.out; omega) _; (with_reducible repeat (first | refine blk_drewN ?_ _ | refine blk_drew ?_ | refine blk_alloc ?_ _)); exact BK3.out)))
  have m2_ := Aside0.mk (show (World.drew (w3029.setCell ⟨gb8, 0, none⟩ (.slice Ao28 t8.length co28))).heap[gb8]? = some (Obj.cells #[.slice Ao28 t8.length co28] 31 (0, 0)) from blk_drew (by ((with_reducible repeat (first | refine blk_drewN ?_ _ | refine blk_drew ?_ | refine blk_alloc ?_ _)); refine blk_put (cs := #[.slice none 0 0]) ?_ 0 _ rfl; (with_reducible repeat (first | refine blk_drewN ?_ _ | refine blk_drew ?_ | refine blk_alloc ?_ _)); exact BK8.out)))
  have m3_ := Aside0.mk (show Kd.S (Kd.slice 5 (Kd.int .u8)) 28 (w3029.setCell ⟨gb8, 0, none⟩ (.slice Ao28 t8.length co28)).drew w.heap.size (fun k_ => n3 ≤ k_ ∧ k_ < n4) (.slice Ao10 t8.length co10) t8 from Kd.S_drew (by ((with_reducible repeat (first | apply Kd.S_alloc | apply Kd.S_drewN | apply Kd.S_drew)); refine Kd.S_far ?_ (fun k_ hk_ => by show k_ ≠ gb8; have h2_ := HI8.out; have q1_ := HN1.out; have q2_ := HN2.out; have q3_ := HN3.out; have q4_ := HN4.out; have q5_ := HN5.out; have q6_ := HN6.out; have q7_ := HN7.out; have q8_ := HN8.out; omega) _; (with_reducible repeat (first | apply Kd.S_alloc | apply Kd.S_drewN | apply Kd.S_drew)); exact HO10.out)))
  have m4_ := Aside0.mk (show Kd.R (Kd.int .u8) 5 (w3029.setCell ⟨gb8, 0, none⟩ (.slice Ao28 t8.length co28)).drew w.heap.size (fun k_ => n5 ≤ k_ ∧ k_ < n6) (.slice Ao24 s22.length co24) s22 from Kd.R_drew (by ((with_reducible repeat (first | apply Kd.R_alloc | apply Kd.R_drewN | apply Kd.R_drew)); refine Kd.R_far ?_ (fun k_ hk_ => by show k_ ≠ gb8; have h2_ := HI8.out; have q1_ := HN1.out; have q2_ := HN2.out; have q3_ := HN3.out; have q4_ := HN4.out; have q5_ := HN5.out; have q6_ := HN6.out; have q7_ := HN7.out; have q8_ := HN8.out; omega) _; (with_reducible repeat (first | apply Kd.R_alloc | apply Kd.R_drewN | apply Kd.R_drew)); exact HO24.out)))
  have m5_ := Aside0.mk (show Kd.S (Kd.slice 5 (Kd.int .u8)) 28 (w3029.setCell ⟨gb8, 0, none⟩ (.slice Ao28 t8.length co28)).drew w.heap.size (fun k_ => n6 ≤ k_ ∧ k_ < n7) (.slice Ao28 t8.length co28) t8 from Kd.S_drew (by ((with_reducible repeat (first | apply Kd.S_alloc | apply Kd.S_drewN | apply Kd.S_drew)); refine Kd.S_far ?_ (fun k_ hk_ => by show k_ ≠ gb8; have h2_ := HI8.out; have q1_ := HN1.out; have q2_ := HN2.out; have q3_ := HN3.out; have q4_ := HN4.out; have q5_ := HN5.out; have q6_ := HN6.out; have q7_ := HN7.out; have q8_ := HN8.out; omega) _; (with_reducible repeat (first | apply Kd.S_alloc | apply Kd.S_drewN | apply Kd.S_drew)); exact HO28.out)))
  have m6_ := Aside0.mk (show Below w.heap.size w (w3029.setCell ⟨gb8, 0, none⟩ (.slice Ao28 t8.length co28)).drew from below_drew1 (by (repeat (first | (with_reducible first | exact HB.out | apply below_alloc | apply pw_below_drewN | apply below_drew1 | refine below_set ?_ GE2.out | refine below_set ?_ GE3.out | refine below_set ?_ GE8.out) | exact HB.out))))
  have m7_ := Aside0.mk (show n8 ≤ (w3029.setCell ⟨gb8, 0, none⟩ (.slice Ao28 t8.length co28)).drew.heap.size from sz_drew (by (repeat (first | exact HZ.out | (with_reducible first | apply sz_alloc | apply sz_drewN | apply sz_drew | apply sz_set)))))
  clear BK2 BK3 BK8 HO10 HO24 HO28 HB HZ
  have BK2 := m0_
  have BK3 := m1_
  have BK8 := m2_
  have HO10 := m3_
  have HO24 := m4_
  have HO28 := m5_
  have HB := m6_
  have HZ := m7_
  clear m0_ m1_ m2_ m3_ m4_ m5_ m6_ m7_
  refine start_ (n := 9) (S := fun w' => w'.cell? ⟨gb8, 0, none⟩ = some (.slice Ao28 t8.length co28) ∧ w'.cell? ⟨gb3, 0, none⟩ = some (.int .i64 a1_0) ∧ w'.cell? ⟨gb3, 1, none⟩ = some (.int .i64 a1_1) ∧ w'.cell? ⟨gb3, 2, none⟩ = some (.int .i64 a1_2) ∧ w'.cell? ⟨gb3, 3, none⟩ = some (.int .i64 a1_3)) (ds := []) #[false, false, false, false, false, false, false, false, false] (by kernel_rfl) rfl rfl ⟨(blk_cell BK8.out 0).trans rfl, (blk_cell BK3.out 0).trans rfl, (blk_cell BK3.out 1).trans rfl, (blk_cell BK3.out 2).trans rfl, (blk_cell BK3.out 3).trans rfl⟩ (fun hHeld => ?_)
  generalize (w3029.setCell ⟨gb8, 0, none⟩ (.slice Ao28 t8.length co28)).drew = w2031 at BK2 BK3 BK8 HO10 HO24 HO28 HB HZ hHeld ⊢
  refine take_ (i := 0) (N := some 32) (v := ?_) (a' := ?_) #[true, false, false, false, false, false, false, false, false] rfl rfl (by kernel_rfl) (fun _ _ _ h => h) (Or.inl ⟨by rfl, ?_⟩) hHeld ?_ ?_
  rotate_left
  · rintro w' ⟨s0_, s1_, s2_, s3_, s4_⟩
    go_simp
    with_reducible rfl
  rotate_left
  · simp only [Act.put, List.setIfInBounds_toArray, List.set_cons_zero, List.set_cons_succ, i64_w, i32_w]
    rfl
  refine take_ (i := 1) (N := some 33) (v := ?_) (a' := ?_) #[true, true, false, false, false, false, false, false, false] rfl rfl (by kernel_rfl) (fun _ _ _ h => h) (Or.inl ⟨by rfl, ?_⟩) hHeld ?_ ?_
  rotate_left
  · rintro w' ⟨s0_, s1_, s2_, s3_, s4_⟩
    go_simp
    with_reducible rfl
  rotate_left
  · simp only [Act.put, List.setIfInBounds_toArray, List.set_cons_zero, List.set_cons_succ, i64_w, i32_w]
    rfl
  refine one_ (i := 2) (N := some 34) #[true, true, true, false, false, false, false, false, false] rfl rfl (by kernel_rfl) (by decide) (fun K hK => ?_)
  refine goes_ Try.func15 (by kernel_rfl) rfl #[.agg #[.int .i64 a1_0, .int .i64 a1_1, .int .i64 a1_2, .int .i64 a1_3]] (by rfl) rfl rfl (by (try simp only [List.map_toArray, List.map_cons, List.map_nil]); first | done | rfl | (simp only [List.length_drop, List.length_take]; rfl)) ?_
  (with_reducible refine (laws_toWindow.calls a1_0 a1_1 a1_2 a1_3 t15 t16 t17 t18 _ E3.out).mono ?_)
  rintro e w1041 ⟨rfl, hb⟩
  refine ⟨_, rfl, ?_⟩
  have m0_ := Aside0.mk (blk_below (g := gb2) (o := .cells #[.slice A0_0 l0_0.length c0_0] 24 (0, 0)) (by ((with_reducible repeat (first | refine blk_drewN ?_ _ | refine blk_drew ?_ | refine blk_alloc ?_ _)); exact BK2.out)) hb)
  have m1_ := Aside0.mk (blk_below (g := gb3) (o := .cells #[.int .i64 a1_0, .int .i64 a1_1, .int .i64 a1_2, .int .i64 a1_3] 26 (0, 0)) (by ((with_reducible repeat (first | refine blk_drewN ?_ _ | refine blk_drew ?_ | refine blk_alloc ?_ _)); exact BK3.out)) hb)
  have m2_ := Aside0.mk (blk_below (g := gb8) (o := .cells #[.slice Ao28 t8.length co28] 31 (0, 0)) (by ((with_reducible repeat (first | refine blk_drewN ?_ _ | refine blk_drew ?_ | refine blk_alloc ?_ _)); exact BK8.out)) hb)
  have m3_ := Aside0.mk (Kd.S_below (by ((with_reducible repeat (first | apply Kd.S_alloc | apply Kd.S_drewN | apply Kd.S_drew)); exact HO10.out)) hb)
  have m4_ := Aside0.mk (Kd.R_below (by ((with_reducible repeat (first | apply Kd.R_alloc | apply Kd.R_drewN | apply Kd.R_drew)); exact HO24.out)) hb)
  have m5_ := Aside0.mk (Kd.S_below (by ((with_reducible repeat (first | apply Kd.S_alloc | apply Kd.S_drewN | apply Kd.S_drew)); exact HO28.out)) hb)
  have mB_ := Aside0.mk (below_step (by (repeat (first | (with_reducible first | exact HB.out | apply below_alloc | apply pw_below_drewN | apply below_drew1 | refine below_set ?_ GE2.out | refine below_set ?_ GE3.out | refine below_set ?_ GE8.out) | exact HB.out))) hb)
  have mL_ := Aside0.mk (by (repeat (first | exact HZ.out | (with_reducible first | apply sz_alloc | apply sz_drewN | apply sz_drew | apply sz_set))) : n8 ≤ _)
  obtain ⟨n9, hn_⟩ : ∃ n_, n_ = w1041.heap.size := ⟨_, rfl⟩
  have mN_ := Aside0.mk (by rw [hn_]; exact Nat.le_trans mL_.out hb.size : n8 ≤ n9)
  have mZ_ := Aside0.mk (Nat.le_of_eq hn_ : n9 ≤ w1041.heap.size)
  clear BK2 BK3 BK8 HO10 HO24 HO28 HB HZ
  have BK2 := m0_
  have BK3 := m1_
  have BK8 := m2_
  have HO10 := m3_
  have HO24 := m4_
  have HO28 := m5_
  have HB := mB_
  have HZ := mZ_
  have HN9 := mN_
  clear m0_ m1_ m2_ m3_ m4_ m5_ mB_ mN_ mZ_ mL_
  (try clear hn_)
  clear hb
  refine hK.out _ _ ⟨(blk_cell BK8.out 0).trans rfl, (blk_cell BK3.out 0).trans rfl, (blk_cell BK3.out 1).trans rfl, (blk_cell BK3.out 2).trans rfl, (blk_cell BK3.out 3).trans rfl⟩ (fun hHeld => ?_)
  clear hK K
  refine norm_ (a' := ?_) ?_ ?_
  rotate_left
  · show Act.put _ (some 34) _ = _
    simp only [Act.put, List.setIfInBounds_toArray, List.set_cons_zero, List.set_cons_succ, i64_w, i32_w]
    rfl
  refine one_ (i := 3) (N := some 35) #[true, true, true, true, false, false, false, false, false] rfl rfl (by kernel_rfl) (by decide) (fun K hK => ?_)
  refine goes_ Try.func16 (by kernel_rfl) rfl #[.agg #[.slice Ao28 t8.length co28], .agg #[.int .i64 t15, .int .i64 t16, .int .i64 t17, .int .i64 t18]] (by rfl) rfl rfl (by (try simp only [List.map_toArray, List.map_cons, List.map_nil]); first | done | rfl | (simp only [List.length_drop, List.length_take]; rfl)) ?_
  (with_reducible refine (impl_WindowBytes.calls k _ _ t8 t15 t16 t17 t18 g20 ok21 _ ?sr0 ?sc0 E7.out).mono ?_)
  (case sr0 => repeat (first | exact (Kd.S_reads' HO28.out).2.2 | (with_reducible refine Kd.C_alloc ?_ _) | (with_reducible refine Kd.C_drewN ?_ _) | (with_reducible refine Kd.C_drew ?_)))
  (case sc0 => first | exact (Kd.S_reads' HO28.out).2.1 | exact Nat.le_trans (Nat.le_of_eq (Kd.S_reads' HO28.out).1.symm) (Kd.S_reads' HO28.out).2.1)
  rintro e w1043 ⟨v7_0, rfl, ho0_, hb⟩
  refine ⟨_, rfl, ?_⟩
  have m0_ := Aside0.mk (blk_below (g := gb2) (o := .cells #[.slice A0_0 l0_0.length c0_0] 24 (0, 0)) (by ((with_reducible repeat (first | refine blk_drewN ?_ _ | refine blk_drew ?_ | refine blk_alloc ?_ _)); exact BK2.out)) hb)
  have m1_ := Aside0.mk (blk_below (g := gb3) (o := .cells #[.int .i64 a1_0, .int .i64 a1_1, .int .i64 a1_2, .int .i64 a1_3] 26 (0, 0)) (by ((with_reducible repeat (first | refine blk_drewN ?_ _ | refine blk_drew ?_ | refine blk_alloc ?_ _)); exact BK3.out)) hb)
  have m2_ := Aside0.mk (blk_below (g := gb8) (o := .cells #[.slice Ao28 t8.length co28] 31 (0, 0)) (by ((with_reducible repeat (first | refine blk_drewN ?_ _ | refine blk_drew ?_ | refine blk_alloc ?_ _)); exact BK8.out)) hb)
  have m3_ := Aside0.mk (Kd.S_below (by ((with_reducible repeat (first | apply Kd.S_alloc | apply Kd.S_drewN | apply Kd.S_drew)); exact HO10.out)) hb)
  have m4_ := Aside0.mk (Kd.R_below (by ((with_reducible repeat (first | apply Kd.R_alloc | apply Kd.R_drewN | apply Kd.R_drew)); exact HO24.out)) hb)
  have m5_ := Aside0.mk (Kd.S_below (by ((with_reducible repeat (first | apply Kd.S_alloc | apply Kd.S_drewN | apply Kd.S_drew)); exact HO28.out)) hb)
  have mB_ := Aside0.mk (below_step (by (repeat (first | (with_reducible first | exact HB.out | apply below_alloc | apply pw_below_drewN | apply below_drew1 | refine below_set ?_ GE2.out | refine below_set ?_ GE3.out | refine below_set ?_ GE8.out) | exact HB.out))) hb)
  have mL_ := Aside0.mk (by (repeat (first | exact HZ.out | (with_reducible first | apply sz_alloc | apply sz_drewN | apply sz_drew | apply sz_set))) : n9 ≤ _)
  obtain ⟨n10, hn_⟩ : ∃ n_, n_ = w1043.heap.size := ⟨_, rfl⟩
  have mN_ := Aside0.mk (by rw [hn_]; exact Nat.le_trans mL_.out hb.size : n9 ≤ n10)
  have mZ_ := Aside0.mk (Nat.le_of_eq hn_ : n10 ≤ w1043.heap.size)
  have xHO38_ := Aside0.mk (show Kd.R (Kd.int .u8) 5 w1043 w.heap.size (fun k_ => n9 ≤ k_ ∧ k_ < n10) _ g20 from Kd.R_mono (Kd.R_lower (Kd.R_bound ho0_) (below_size (by (repeat (first | (with_reducible first | exact HB.out | apply below_alloc | apply pw_below_drewN | apply below_drew1 | refine below_set ?_ GE2.out | refine below_set ?_ GE3.out | refine below_set ?_ GE8.out) | exact HB.out))))) (fun k_ hk_ => ⟨Nat.le_trans mL_.out hk_.2.1, by rw [hn_]; exact hk_.2.2.1⟩))
  clear BK2 BK3 BK8 HO10 HO24 HO28 HB HZ
  have BK2 := m0_
  have BK3 := m1_
  have BK8 := m2_
  have HO10 := m3_
  have HO24 := m4_
  have HO28 := m5_
  have HB := mB_
  have HZ := mZ_
  have HN10 := mN_
  have HO38 := xHO38_
  clear m0_ m1_ m2_ m3_ m4_ m5_ mB_ mN_ mZ_ mL_ xHO38_
  (try clear hn_)
  clear hb ho0_
  obtain ⟨Ao38, co38, eo_⟩ := Kd.R_slice HO38.out; subst eo_
  refine hK.out _ _ ⟨(blk_cell BK8.out 0).trans rfl, (blk_cell BK3.out 0).trans rfl, (blk_cell BK3.out 1).trans rfl, (blk_cell BK3.out 2).trans rfl, (blk_cell BK3.out 3).trans rfl⟩ (fun hHeld => ?_)
  clear hK K
  refine norm_ (a' := ?_) ?_ ?_
  rotate_left
  · show Act.put _ (some 35) _ = _
    simp only [Act.put, List.setIfInBounds_toArray, List.set_cons_zero, List.set_cons_succ, i64_w, i32_w]
    rfl
  refine pure_ (i := 4) (N := some 31) (v := ?_) (a' := ?_) #[true, true, true, true, true, false, false, false, false] rfl rfl (by kernel_rfl) (fun _ _ _ h => h) (Or.inl ⟨by rfl, ?_⟩) ?_ ?_
  rotate_left
  · intro w'
    go_simp
    with_reducible rfl
  rotate_left
  · simp only [Act.put, List.setIfInBounds_toArray, List.set_cons_zero, List.set_cons_succ, i64_w, i32_w]
    rfl
  refine pure_ (i := 5) (N := some 36) (v := ?_) (a' := ?_) #[true, true, true, true, true, true, false, false, false] rfl rfl (by kernel_rfl) (fun _ _ _ h => h) (Or.inl ⟨by rfl, ?_⟩) ?_ ?_
  rotate_left
  · intro w'
    go_simp
    with_reducible rfl
  rotate_left
  · simp only [Act.put, List.setIfInBounds_toArray, List.set_cons_zero, List.set_cons_succ, i64_w, i32_w]
    rfl
  refine pure_ (i := 6) (N := some 37) (v := ?_) (a' := ?_) #[true, true, true, true, true, true, true, false, false] rfl rfl (by kernel_rfl) (fun _ _ _ h => h) (Or.inl ⟨by rfl, ?_⟩) ?_ ?_
  rotate_left
  · intro w'
    go_simp
    with_reducible rfl
  rotate_left
  · simp only [Act.put, List.setIfInBounds_toArray, List.set_cons_zero, List.set_cons_succ, i64_w, i32_w]
    rfl
  refine pure_ (i := 7) (N := some 9) (v := ?_) (a' := ?_) #[true, true, true, true, true, true, true, true, false] rfl rfl (by kernel_rfl) (fun _ _ _ h => h) (Or.inl ⟨by rfl, ?_⟩) ?_ ?_
  rotate_left
  · intro w'
    go_simp
    with_reducible rfl
  rotate_left
  · simp only [Act.put, List.setIfInBounds_toArray, List.set_cons_zero, List.set_cons_succ, i64_w, i32_w]
    rfl
  refine pure_ (i := 8) (N := some 10) (v := ?_) (a' := ?_) #[true, true, true, true, true, true, true, true, true] rfl rfl (by kernel_rfl) (fun _ _ _ h => h) (Or.inl ⟨by rfl, ?_⟩) ?_ ?_
  rotate_left
  · intro w'
    go_simp
    with_reducible rfl
  rotate_left
  · simp only [Act.put, List.setIfInBounds_toArray, List.set_cons_zero, List.set_cons_succ, i64_w, i32_w]
    rfl
  refine done_ (by kernel_rfl) ?_
  go_upto_region 10 with (first | ((with_reducible refine gate_callee (f := 17) rfl ?_); refine goesL_ (some 40) rfl rfl Try.func17 (by kernel_rfl) rfl #[.slice Ao38 g20.length co38, .slice Ao24 s22.length co24] rfl (by (try simp only [List.map_toArray, List.map_cons, List.map_nil]); first | done | rfl) ?_; (with_reducible refine (laws_eqByteS.calls k _ _ g20 _ _ s22 true _ ?sr0 ?sc0 ?sr1 ?sc1 E8.out).mono ?_); (case sr0 => repeat (first | exact (Kd.R_reads' HO38.out).2.2 | (with_reducible refine Kd.C_alloc ?_ _) | (with_reducible refine Kd.C_drewN ?_ _) | (with_reducible refine Kd.C_drew ?_))); (case sc0 => first | exact (Kd.R_reads' HO38.out).2.1 | exact Nat.le_trans (Nat.le_of_eq (Kd.R_reads' HO38.out).1.symm) (Kd.R_reads' HO38.out).2.1); (case sr1 => repeat (first | exact (Kd.R_reads' HO24.out).2.2 | (with_reducible refine Kd.C_alloc ?_ _) | (with_reducible refine Kd.C_drewN ?_ _) | (with_reducible refine Kd.C_drew ?_))); (case sc1 => first | exact (Kd.R_reads' HO24.out).2.1 | exact Nat.le_trans (Nat.le_of_eq (Kd.R_reads' HO24.out).1.symm) (Kd.R_reads' HO24.out).2.1); rintro e w1046 ⟨rfl, hd_⟩; have hb := hd_.below; clear hd_; refine ⟨_, rfl, ?_⟩; have m0_ := Aside0.mk (blk_below (g := gb2) (o := .cells #[.slice A0_0 l0_0.length c0_0] 24 (0, 0)) (by ((with_reducible repeat (first | refine blk_drewN ?_ _ | refine blk_drew ?_ | refine blk_alloc ?_ _)); exact BK2.out)) hb); have m1_ := Aside0.mk (blk_below (g := gb3) (o := .cells #[.int .i64 a1_0, .int .i64 a1_1, .int .i64 a1_2, .int .i64 a1_3] 26 (0, 0)) (by ((with_reducible repeat (first | refine blk_drewN ?_ _ | refine blk_drew ?_ | refine blk_alloc ?_ _)); exact BK3.out)) hb); have m2_ := Aside0.mk (blk_below (g := gb8) (o := .cells #[.slice Ao28 t8.length co28] 31 (0, 0)) (by ((with_reducible repeat (first | refine blk_drewN ?_ _ | refine blk_drew ?_ | refine blk_alloc ?_ _)); exact BK8.out)) hb); have m3_ := Aside0.mk (Kd.S_below (by ((with_reducible repeat (first | apply Kd.S_alloc | apply Kd.S_drewN | apply Kd.S_drew)); exact HO10.out)) hb); have m4_ := Aside0.mk (Kd.R_below (by ((with_reducible repeat (first | apply Kd.R_alloc | apply Kd.R_drewN | apply Kd.R_drew)); exact HO24.out)) hb); have m5_ := Aside0.mk (Kd.S_below (by ((with_reducible repeat (first | apply Kd.S_alloc | apply Kd.S_drewN | apply Kd.S_drew)); exact HO28.out)) hb); have m6_ := Aside0.mk (Kd.R_below (by ((with_reducible repeat (first | apply Kd.R_alloc | apply Kd.R_drewN | apply Kd.R_drew)); exact HO38.out)) hb); have mB_ := Aside0.mk (below_step (by (repeat (first | (with_reducible first | exact HB.out | apply below_alloc | apply pw_below_drewN | apply below_drew1 | refine below_set ?_ GE2.out | refine below_set ?_ GE3.out | refine below_set ?_ GE8.out) | exact HB.out))) hb); have mL_ := Aside0.mk (by (repeat (first | exact HZ.out | (with_reducible first | apply sz_alloc | apply sz_drewN | apply sz_drew | apply sz_set))) : n10 ≤ _); obtain ⟨n11, hn_⟩ : ∃ n_, n_ = w1046.heap.size := ⟨_, rfl⟩; have mN_ := Aside0.mk (by rw [hn_]; exact Nat.le_trans mL_.out hb.size : n10 ≤ n11); have mZ_ := Aside0.mk (Nat.le_of_eq hn_ : n11 ≤ w1046.heap.size); clear BK2 BK3 BK8 HO10 HO24 HO28 HO38 HB HZ; have BK2 := m0_; have BK3 := m1_; have BK8 := m2_; have HO10 := m3_; have HO24 := m4_; have HO28 := m5_; have HO38 := m6_; have HB := mB_; have HZ := mZ_; have HN11 := mN_; clear m0_ m1_ m2_ m3_ m4_ m5_ m6_ mB_ mN_ mZ_ mL_; (try clear hn_); clear hb))
  try go_wp2
  have m0_ := Aside0.mk (show (World.drew w1046).heap[gb2]? = some (Obj.cells #[.slice A0_0 l0_0.length c0_0] 24 (0, 0)) from blk_drew (by ((with_reducible repeat (first | refine blk_drewN ?_ _ | refine blk_drew ?_ | refine blk_alloc ?_ _)); exact BK2.out)))
  have m1_ := Aside0.mk (show (World.drew w1046).heap[gb3]? = some (Obj.cells #[.int .i64 a1_0, .int .i64 a1_1, .int .i64 a1_2, .int .i64 a1_3] 26 (0, 0)) from blk_drew (by ((with_reducible repeat (first | refine blk_drewN ?_ _ | refine blk_drew ?_ | refine blk_alloc ?_ _)); exact BK3.out)))
  have m2_ := Aside0.mk (show (World.drew w1046).heap[gb8]? = some (Obj.cells #[.slice Ao28 t8.length co28] 31 (0, 0)) from blk_drew (by ((with_reducible repeat (first | refine blk_drewN ?_ _ | refine blk_drew ?_ | refine blk_alloc ?_ _)); exact BK8.out)))
  have m3_ := Aside0.mk (show Kd.S (Kd.slice 5 (Kd.int .u8)) 28 w1046.drew w.heap.size (fun k_ => n3 ≤ k_ ∧ k_ < n4) (.slice Ao10 t8.length co10) t8 from Kd.S_drew (by ((with_reducible repeat (first | apply Kd.S_alloc | apply Kd.S_drewN | apply Kd.S_drew)); exact HO10.out)))
  have m4_ := Aside0.mk (show Kd.R (Kd.int .u8) 5 w1046.drew w.heap.size (fun k_ => n5 ≤ k_ ∧ k_ < n6) (.slice Ao24 s22.length co24) s22 from Kd.R_drew (by ((with_reducible repeat (first | apply Kd.R_alloc | apply Kd.R_drewN | apply Kd.R_drew)); exact HO24.out)))
  have m5_ := Aside0.mk (show Kd.S (Kd.slice 5 (Kd.int .u8)) 28 w1046.drew w.heap.size (fun k_ => n6 ≤ k_ ∧ k_ < n7) (.slice Ao28 t8.length co28) t8 from Kd.S_drew (by ((with_reducible repeat (first | apply Kd.S_alloc | apply Kd.S_drewN | apply Kd.S_drew)); exact HO28.out)))
  have m6_ := Aside0.mk (show Kd.R (Kd.int .u8) 5 w1046.drew w.heap.size (fun k_ => n9 ≤ k_ ∧ k_ < n10) (.slice Ao38 g20.length co38) g20 from Kd.R_drew (by ((with_reducible repeat (first | apply Kd.R_alloc | apply Kd.R_drewN | apply Kd.R_drew)); exact HO38.out)))
  have m7_ := Aside0.mk (show Below w.heap.size w w1046.drew from below_drew1 (by (repeat (first | (with_reducible first | exact HB.out | apply below_alloc | apply pw_below_drewN | apply below_drew1 | refine below_set ?_ GE2.out | refine below_set ?_ GE3.out | refine below_set ?_ GE8.out) | exact HB.out))))
  have m8_ := Aside0.mk (show n11 ≤ w1046.drew.heap.size from sz_drew (by (repeat (first | exact HZ.out | (with_reducible first | apply sz_alloc | apply sz_drewN | apply sz_drew | apply sz_set)))))
  clear BK2 BK3 BK8 HO10 HO24 HO28 HO38 HB HZ
  have BK2 := m0_
  have BK3 := m1_
  have BK8 := m2_
  have HO10 := m3_
  have HO24 := m4_
  have HO28 := m5_
  have HO38 := m6_
  have HB := m7_
  have HZ := m8_
  clear m0_ m1_ m2_ m3_ m4_ m5_ m6_ m7_ m8_
  refine start_ (n := 5) (S := fun w' => w'.cell? ⟨gb8, 0, none⟩ = some (.slice Ao28 t8.length co28) ∧ w'.cell? ⟨gb2, 0, none⟩ = some (.slice A0_0 l0_0.length c0_0)) (ds := []) #[false, false, false, false, false] (by kernel_rfl) rfl rfl ⟨(blk_cell BK8.out 0).trans rfl, (blk_cell BK2.out 0).trans rfl⟩ (fun hHeld => ?_)
  generalize w1046.drew = w2040 at BK2 BK3 BK8 HO10 HO24 HO28 HO38 HB HZ hHeld ⊢
  refine take_ (i := 0) (N := some 47) (v := ?_) (a' := ?_) #[true, false, false, false, false] rfl rfl (by kernel_rfl) (fun _ _ _ h => h) (Or.inl ⟨by rfl, ?_⟩) hHeld ?_ ?_
  rotate_left
  · rintro w' ⟨s0_, s1_⟩
    go_simp
    with_reducible rfl
  rotate_left
  · simp only [Act.put, List.setIfInBounds_toArray, List.set_cons_zero, List.set_cons_succ, i64_w, i32_w]
    rfl
  refine take_ (i := 1) (N := some 48) (v := ?_) (a' := ?_) #[true, true, false, false, false] rfl rfl (by kernel_rfl) (fun _ _ _ h => h) (Or.inl ⟨by rfl, ?_⟩) hHeld ?_ ?_
  rotate_left
  · rintro w' ⟨s0_, s1_⟩
    go_simp
    with_reducible rfl
  rotate_left
  · simp only [Act.put, List.setIfInBounds_toArray, List.set_cons_zero, List.set_cons_succ, i64_w, i32_w]
    rfl
  refine one_ (i := 2) (N := some 49) #[true, true, true, false, false] rfl rfl (by kernel_rfl) (by decide) (fun K hK => ?_)
  refine goes_ Try.func14 (by kernel_rfl) rfl #[.agg #[.slice A0_0 l0_0.length c0_0]] (by rfl) rfl rfl (by (try simp only [List.map_toArray, List.map_cons, List.map_nil]); first | done | rfl | (simp only [List.length_drop, List.length_take]; rfl)) ?_
  (with_reducible refine (laws_toMemory.calls k _ _ l0_0 t8 _ ?sr0 ?sc0 E2.out).mono ?_)
  (case sr0 => exact Kd.C_below HR0_0.out (by (repeat (first | (with_reducible first | exact HB.out | apply below_alloc | apply pw_below_drewN | apply below_drew1 | refine below_set ?_ GE2.out | refine below_set ?_ GE3.out | refine below_set ?_ GE8.out) | exact HB.out))))
  (case sc0 => exact HC0_0.out)
  rintro e w1050 ⟨v9_0, rfl, ho0_, hb⟩
  refine ⟨_, rfl, ?_⟩
  have m0_ := Aside0.mk (blk_below (g := gb2) (o := .cells #[.slice A0_0 l0_0.length c0_0] 24 (0, 0)) (by ((with_reducible repeat (first | refine blk_drewN ?_ _ | refine blk_drew ?_ | refine blk_alloc ?_ _)); exact BK2.out)) hb)
  have m1_ := Aside0.mk (blk_below (g := gb3) (o := .cells #[.int .i64 a1_0, .int .i64 a1_1, .int .i64 a1_2, .int .i64 a1_3] 26 (0, 0)) (by ((with_reducible repeat (first | refine blk_drewN ?_ _ | refine blk_drew ?_ | refine blk_alloc ?_ _)); exact BK3.out)) hb)
  have m2_ := Aside0.mk (blk_below (g := gb8) (o := .cells #[.slice Ao28 t8.length co28] 31 (0, 0)) (by ((with_reducible repeat (first | refine blk_drewN ?_ _ | refine blk_drew ?_ | refine blk_alloc ?_ _)); exact BK8.out)) hb)
  have m3_ := Aside0.mk (Kd.S_below (by ((with_reducible repeat (first | apply Kd.S_alloc | apply Kd.S_drewN | apply Kd.S_drew)); exact HO10.out)) hb)
  have m4_ := Aside0.mk (Kd.R_below (by ((with_reducible repeat (first | apply Kd.R_alloc | apply Kd.R_drewN | apply Kd.R_drew)); exact HO24.out)) hb)
  have m5_ := Aside0.mk (Kd.S_below (by ((with_reducible repeat (first | apply Kd.S_alloc | apply Kd.S_drewN | apply Kd.S_drew)); exact HO28.out)) hb)
  have m6_ := Aside0.mk (Kd.R_below (by ((with_reducible repeat (first | apply Kd.R_alloc | apply Kd.R_drewN | apply Kd.R_drew)); exact HO38.out)) hb)
  have mB_ := Aside0.mk (below_step (by (repeat (first | (with_reducible first | exact HB.out | apply below_alloc | apply pw_below_drewN | apply below_drew1 | refine below_set ?_ GE2.out | refine below_set ?_ GE3.out | refine below_set ?_ GE8.out) | exact HB.out))) hb)
  have mL_ := Aside0.mk (by (repeat (first | exact HZ.out | (with_reducible first | apply sz_alloc | apply sz_drewN | apply sz_drew | apply sz_set))) : n11 ≤ _)
  obtain ⟨n12, hn_⟩ : ∃ n_, n_ = w1050.heap.size := ⟨_, rfl⟩
  have mN_ := Aside0.mk (by rw [hn_]; exact Nat.le_trans mL_.out hb.size : n11 ≤ n12)
  have mZ_ := Aside0.mk (Nat.le_of_eq hn_ : n12 ≤ w1050.heap.size)
  have xHO43_ := Aside0.mk (show Kd.S (Kd.slice 5 (Kd.int .u8)) 28 w1050 w.heap.size (fun k_ => n11 ≤ k_ ∧ k_ < n12) _ t8 from Kd.S_mono (Kd.S_lower (Kd.S_bound ho0_) (below_size (by (repeat (first | (with_reducible first | exact HB.out | apply below_alloc | apply pw_below_drewN | apply below_drew1 | refine below_set ?_ GE2.out | refine below_set ?_ GE3.out | refine below_set ?_ GE8.out) | exact HB.out))))) (fun k_ hk_ => ⟨Nat.le_trans mL_.out hk_.2.1, by rw [hn_]; exact hk_.2.2.1⟩))
  clear BK2 BK3 BK8 HO10 HO24 HO28 HO38 HB HZ
  have BK2 := m0_
  have BK3 := m1_
  have BK8 := m2_
  have HO10 := m3_
  have HO24 := m4_
  have HO28 := m5_
  have HO38 := m6_
  have HB := mB_
  have HZ := mZ_
  have HN12 := mN_
  have HO43 := xHO43_
  clear m0_ m1_ m2_ m3_ m4_ m5_ m6_ mB_ mN_ mZ_ mL_ xHO43_
  (try clear hn_)
  clear hb ho0_
  obtain ⟨Ao43, co43, eo_⟩ := Kd.S_slice HO43.out; subst eo_
  refine hK.out _ _ ⟨(blk_cell BK8.out 0).trans rfl, (blk_cell BK2.out 0).trans rfl⟩ (fun hHeld => ?_)
  clear hK K
  refine norm_ (a' := ?_) ?_ ?_
  rotate_left
  · show Act.put _ (some 49) _ = _
    simp only [Act.put, List.setIfInBounds_toArray, List.set_cons_zero, List.set_cons_succ, i64_w, i32_w]
    rfl
  refine one_ (i := 3) (N := some 50) #[true, true, true, true, false] rfl rfl (by kernel_rfl) (by decide) (fun K hK => ?_)
  refine goes_ Try.func18 (by kernel_rfl) rfl #[.agg #[.slice Ao28 t8.length co28], .agg #[.slice Ao43 t8.length co43]] (by rfl) rfl rfl (by (try simp only [List.map_toArray, List.map_cons, List.map_nil]); first | done | rfl | (simp only [List.length_drop, List.length_take]; rfl)) ?_
  (with_reducible refine (laws_eqMemory.calls k _ _ t8 _ _ t8 true _ ?sr0 ?sc0 ?sr1 ?sc1 E10.out).mono ?_)
  (case sr0 => repeat (first | exact (Kd.S_reads' HO28.out).2.2 | (with_reducible refine Kd.C_alloc ?_ _) | (with_reducible refine Kd.C_drewN ?_ _) | (with_reducible refine Kd.C_drew ?_)))
  (case sc0 => first | exact (Kd.S_reads' HO28.out).2.1 | exact Nat.le_trans (Nat.le_of_eq (Kd.S_reads' HO28.out).1.symm) (Kd.S_reads' HO28.out).2.1)
  (case sr1 => repeat (first | exact (Kd.S_reads' HO43.out).2.2 | (with_reducible refine Kd.C_alloc ?_ _) | (with_reducible refine Kd.C_drewN ?_ _) | (with_reducible refine Kd.C_drew ?_)))
  (case sc1 => first | exact (Kd.S_reads' HO43.out).2.1 | exact Nat.le_trans (Nat.le_of_eq (Kd.S_reads' HO43.out).1.symm) (Kd.S_reads' HO43.out).2.1)
  rintro e w1053 ⟨rfl, hb⟩
  refine ⟨_, rfl, ?_⟩
  have m0_ := Aside0.mk (blk_below (g := gb2) (o := .cells #[.slice A0_0 l0_0.length c0_0] 24 (0, 0)) (by ((with_reducible repeat (first | refine blk_drewN ?_ _ | refine blk_drew ?_ | refine blk_alloc ?_ _)); exact BK2.out)) hb)
  have m1_ := Aside0.mk (blk_below (g := gb3) (o := .cells #[.int .i64 a1_0, .int .i64 a1_1, .int .i64 a1_2, .int .i64 a1_3] 26 (0, 0)) (by ((with_reducible repeat (first | refine blk_drewN ?_ _ | refine blk_drew ?_ | refine blk_alloc ?_ _)); exact BK3.out)) hb)
  have m2_ := Aside0.mk (blk_below (g := gb8) (o := .cells #[.slice Ao28 t8.length co28] 31 (0, 0)) (by ((with_reducible repeat (first | refine blk_drewN ?_ _ | refine blk_drew ?_ | refine blk_alloc ?_ _)); exact BK8.out)) hb)
  have m3_ := Aside0.mk (Kd.S_below (by ((with_reducible repeat (first | apply Kd.S_alloc | apply Kd.S_drewN | apply Kd.S_drew)); exact HO10.out)) hb)
  have m4_ := Aside0.mk (Kd.R_below (by ((with_reducible repeat (first | apply Kd.R_alloc | apply Kd.R_drewN | apply Kd.R_drew)); exact HO24.out)) hb)
  have m5_ := Aside0.mk (Kd.S_below (by ((with_reducible repeat (first | apply Kd.S_alloc | apply Kd.S_drewN | apply Kd.S_drew)); exact HO28.out)) hb)
  have m6_ := Aside0.mk (Kd.R_below (by ((with_reducible repeat (first | apply Kd.R_alloc | apply Kd.R_drewN | apply Kd.R_drew)); exact HO38.out)) hb)
  have m7_ := Aside0.mk (Kd.S_below (by ((with_reducible repeat (first | apply Kd.S_alloc | apply Kd.S_drewN | apply Kd.S_drew)); exact HO43.out)) hb)
  have mB_ := Aside0.mk (below_step (by (repeat (first | (with_reducible first | exact HB.out | apply below_alloc | apply pw_below_drewN | apply below_drew1 | refine below_set ?_ GE2.out | refine below_set ?_ GE3.out | refine below_set ?_ GE8.out) | exact HB.out))) hb)
  have mL_ := Aside0.mk (by (repeat (first | exact HZ.out | (with_reducible first | apply sz_alloc | apply sz_drewN | apply sz_drew | apply sz_set))) : n12 ≤ _)
  obtain ⟨n13, hn_⟩ : ∃ n_, n_ = w1053.heap.size := ⟨_, rfl⟩
  have mN_ := Aside0.mk (by rw [hn_]; exact Nat.le_trans mL_.out hb.size : n12 ≤ n13)
  have mZ_ := Aside0.mk (Nat.le_of_eq hn_ : n13 ≤ w1053.heap.size)
  clear BK2 BK3 BK8 HO10 HO24 HO28 HO38 HO43 HB HZ
  have BK2 := m0_
  have BK3 := m1_
  have BK8 := m2_
  have HO10 := m3_
  have HO24 := m4_
  have HO28 := m5_
  have HO38 := m6_
  have HO43 := m7_
  have HB := mB_
  have HZ := mZ_
  have HN13 := mN_
  clear m0_ m1_ m2_ m3_ m4_ m5_ m6_ m7_ mB_ mN_ mZ_ mL_
  (try clear hn_)
  clear hb
  refine hK.out _ _ ⟨(blk_cell BK8.out 0).trans rfl, (blk_cell BK2.out 0).trans rfl⟩ (fun hHeld => ?_)
  clear hK K
  refine norm_ (a' := ?_) ?_ ?_
  rotate_left
  · show Act.put _ (some 50) _ = _
    simp only [Act.put, List.setIfInBounds_toArray, List.set_cons_zero, List.set_cons_succ, i64_w, i32_w]
    rfl
  refine pure_ (i := 4) (N := some 51) (v := ?_) (a' := ?_) #[true, true, true, true, true] rfl rfl (by kernel_rfl) (fun _ _ _ h => h) (Or.inl ⟨by rfl, ?_⟩) ?_ ?_
  rotate_left
  · intro w'
    go_simp
    with_reducible rfl
  rotate_left
  · simp only [Act.put, List.setIfInBounds_toArray, List.set_cons_zero, List.set_cons_succ, i64_w, i32_w]
    rfl
  refine done_ (by kernel_rfl) ?_
  have hc45_0 := (blk_cell BK8.out 0).trans (show (#[.slice Ao28 t8.length co28] : Array Value)[0]? = some (.slice Ao28 t8.length co28) from rfl)
  have hf45_0 := blk_frozen BK8.out 0
  go_upto_region 24 with (first | ((with_reducible refine gate_callee (f := 19) rfl ?_); refine goesL_ (some 54) rfl rfl Try.func19 (by kernel_rfl) rfl #[.agg #[.slice Ao28 t8.length co28], .int .i64 1] rfl (by (try simp only [List.map_toArray, List.map_cons, List.map_nil]); first | done | rfl) ?_; (with_reducible refine (laws_markMemory.calls k (fun k_ => n6 ≤ k_ ∧ k_ < n7) _ t8 1 m46 y47 w _ ?sideB ?sideO E11.out).mono ?_); (case sideB => exact (by (repeat (first | (with_reducible first | exact HB.out | apply below_alloc | apply pw_below_drewN | apply below_drew1 | refine below_set ?_ GE2.out | refine below_set ?_ GE3.out | refine below_set ?_ GE8.out) | exact HB.out)))); (case sideO => exact (by ((with_reducible repeat (first | apply Kd.S_alloc | apply Kd.S_drewN | apply Kd.S_drew)); exact HO28.out))); rintro e w1058 ⟨rfl, ho_, hb2_, hk⟩; refine ⟨_, rfl, ?_⟩; have m0_ := Aside0.mk (blk_kept (g := gb2) (o := .cells #[.slice A0_0 l0_0.length c0_0] 24 (0, 0)) (by ((with_reducible repeat (first | refine blk_drewN ?_ _ | refine blk_drew ?_ | refine blk_alloc ?_ _)); exact BK2.out)) hk (fun h_ => by have h1_ := HI2.out; have q1_ := HN1.out; have q2_ := HN2.out; have q3_ := HN3.out; have q4_ := HN4.out; have q5_ := HN5.out; have q6_ := HN6.out; have q7_ := HN7.out; have q8_ := HN8.out; have q9_ := HN9.out; have q10_ := HN10.out; have q11_ := HN11.out; have q12_ := HN12.out; have q13_ := HN13.out; omega)); have m1_ := Aside0.mk (blk_kept (g := gb3) (o := .cells #[.int .i64 a1_0, .int .i64 a1_1, .int .i64 a1_2, .int .i64 a1_3] 26 (0, 0)) (by ((with_reducible repeat (first | refine blk_drewN ?_ _ | refine blk_drew ?_ | refine blk_alloc ?_ _)); exact BK3.out)) hk (fun h_ => by have h1_ := HI3.out; have q1_ := HN1.out; have q2_ := HN2.out; have q3_ := HN3.out; have q4_ := HN4.out; have q5_ := HN5.out; have q6_ := HN6.out; have q7_ := HN7.out; have q8_ := HN8.out; have q9_ := HN9.out; have q10_ := HN10.out; have q11_ := HN11.out; have q12_ := HN12.out; have q13_ := HN13.out; omega)); have m2_ := Aside0.mk (blk_kept (g := gb8) (o := .cells #[.slice Ao28 t8.length co28] 31 (0, 0)) (by ((with_reducible repeat (first | refine blk_drewN ?_ _ | refine blk_drew ?_ | refine blk_alloc ?_ _)); exact BK8.out)) hk (fun h_ => by have h1_ := HI8.out; have q1_ := HN1.out; have q2_ := HN2.out; have q3_ := HN3.out; have q4_ := HN4.out; have q5_ := HN5.out; have q6_ := HN6.out; have q7_ := HN7.out; have q8_ := HN8.out; have q9_ := HN9.out; have q10_ := HN10.out; have q11_ := HN11.out; have q12_ := HN12.out; have q13_ := HN13.out; omega)); have m3_ := Aside0.mk (Kd.S_kept (by ((with_reducible repeat (first | apply Kd.S_alloc | apply Kd.S_drewN | apply Kd.S_drew)); exact HO10.out)) hk (fun k_ h1_ h2_ => by have q1_ := HN1.out; have q2_ := HN2.out; have q3_ := HN3.out; have q4_ := HN4.out; have q5_ := HN5.out; have q6_ := HN6.out; have q7_ := HN7.out; have q8_ := HN8.out; have q9_ := HN9.out; have q10_ := HN10.out; have q11_ := HN11.out; have q12_ := HN12.out; have q13_ := HN13.out; omega)); have m4_ := Aside0.mk (Kd.R_kept (by ((with_reducible repeat (first | apply Kd.R_alloc | apply Kd.R_drewN | apply Kd.R_drew)); exact HO24.out)) hk (fun k_ h1_ h2_ => by have q1_ := HN1.out; have q2_ := HN2.out; have q3_ := HN3.out; have q4_ := HN4.out; have q5_ := HN5.out; have q6_ := HN6.out; have q7_ := HN7.out; have q8_ := HN8.out; have q9_ := HN9.out; have q10_ := HN10.out; have q11_ := HN11.out; have q12_ := HN12.out; have q13_ := HN13.out; omega)); have m5_ := Aside0.mk (Kd.R_kept (by ((with_reducible repeat (first | apply Kd.R_alloc | apply Kd.R_drewN | apply Kd.R_drew)); exact HO38.out)) hk (fun k_ h1_ h2_ => by have q1_ := HN1.out; have q2_ := HN2.out; have q3_ := HN3.out; have q4_ := HN4.out; have q5_ := HN5.out; have q6_ := HN6.out; have q7_ := HN7.out; have q8_ := HN8.out; have q9_ := HN9.out; have q10_ := HN10.out; have q11_ := HN11.out; have q12_ := HN12.out; have q13_ := HN13.out; omega)); have m6_ := Aside0.mk (Kd.S_kept (by ((with_reducible repeat (first | apply Kd.S_alloc | apply Kd.S_drewN | apply Kd.S_drew)); exact HO43.out)) hk (fun k_ h1_ h2_ => by have q1_ := HN1.out; have q2_ := HN2.out; have q3_ := HN3.out; have q4_ := HN4.out; have q5_ := HN5.out; have q6_ := HN6.out; have q7_ := HN7.out; have q8_ := HN8.out; have q9_ := HN9.out; have q10_ := HN10.out; have q11_ := HN11.out; have q12_ := HN12.out; have q13_ := HN13.out; omega)); have mO_ := Aside0.mk (show Kd.S (Kd.slice 5 (Kd.int .u8)) 28 w1058 w.heap.size (fun k_ => n6 ≤ k_ ∧ k_ < n7) (.slice Ao28 t8.length co28) y47 from ho_); have mL_ := Aside0.mk (by (repeat (first | exact HZ.out | (with_reducible first | apply sz_alloc | apply sz_drewN | apply sz_drew | apply sz_set))) : n13 ≤ _); have mZ_ := Aside0.mk (Nat.le_trans mL_.out hk.1 : n13 ≤ w1058.heap.size); have mB_ := Aside0.mk hb2_; clear BK2 BK3 BK8 HO10 HO24 HO38 HO43 HB HZ HO28; have BK2 := m0_; have BK3 := m1_; have BK8 := m2_; have HO10 := m3_; have HO24 := m4_; have HO38 := m5_; have HO43 := m6_; have HO28 := mO_; have HB := mB_; have HZ := mZ_; clear m0_ m1_ m2_ m3_ m4_ m5_ m6_ mO_ mB_ mZ_ mL_; clear ho_ hb2_ hk) | ((with_reducible refine gate_callee (f := 20) rfl ?_); refine goesL_ (some 70) rfl rfl Try.func20 (by kernel_rfl) rfl #[.slice Ao38 g20.length co38, .int .i64 1] rfl (by (try simp only [List.map_toArray, List.map_cons, List.map_nil]); first | done | rfl) ?_; (with_reducible refine (laws_markByteS.calls k (fun k_ => n9 ≤ k_ ∧ k_ < n10) _ g20 1 m50 y51 w _ ?sideB ?sideO E13.out).mono ?_); (case sideB => exact (by (repeat (first | (with_reducible first | exact HB.out | apply below_alloc | apply pw_below_drewN | apply below_drew1 | refine below_set ?_ GE2.out | refine below_set ?_ GE3.out | refine below_set ?_ GE8.out) | exact HB.out)))); (case sideO => exact (by ((with_reducible repeat (first | apply Kd.R_alloc | apply Kd.R_drewN | apply Kd.R_drew)); exact HO38.out))); rintro e w1064 ⟨rfl, ho_, hb2_, hk⟩; refine ⟨_, rfl, ?_⟩; have m0_ := Aside0.mk (blk_kept (g := gb2) (o := .cells #[.slice A0_0 l0_0.length c0_0] 24 (0, 0)) (by ((with_reducible repeat (first | refine blk_drewN ?_ _ | refine blk_drew ?_ | refine blk_alloc ?_ _)); exact BK2.out)) hk (fun h_ => by have h1_ := HI2.out; have q1_ := HN1.out; have q2_ := HN2.out; have q3_ := HN3.out; have q4_ := HN4.out; have q5_ := HN5.out; have q6_ := HN6.out; have q7_ := HN7.out; have q8_ := HN8.out; have q9_ := HN9.out; have q10_ := HN10.out; have q11_ := HN11.out; have q12_ := HN12.out; have q13_ := HN13.out; have q14_ := HN14.out; omega)); have m1_ := Aside0.mk (blk_kept (g := gb3) (o := .cells #[.int .i64 a1_0, .int .i64 a1_1, .int .i64 a1_2, .int .i64 a1_3] 26 (0, 0)) (by ((with_reducible repeat (first | refine blk_drewN ?_ _ | refine blk_drew ?_ | refine blk_alloc ?_ _)); exact BK3.out)) hk (fun h_ => by have h1_ := HI3.out; have q1_ := HN1.out; have q2_ := HN2.out; have q3_ := HN3.out; have q4_ := HN4.out; have q5_ := HN5.out; have q6_ := HN6.out; have q7_ := HN7.out; have q8_ := HN8.out; have q9_ := HN9.out; have q10_ := HN10.out; have q11_ := HN11.out; have q12_ := HN12.out; have q13_ := HN13.out; have q14_ := HN14.out; omega)); have m2_ := Aside0.mk (blk_kept (g := gb8) (o := .cells #[.slice Ao28 t8.length co28] 31 (0, 0)) (by ((with_reducible repeat (first | refine blk_drewN ?_ _ | refine blk_drew ?_ | refine blk_alloc ?_ _)); exact BK8.out)) hk (fun h_ => by have h1_ := HI8.out; have q1_ := HN1.out; have q2_ := HN2.out; have q3_ := HN3.out; have q4_ := HN4.out; have q5_ := HN5.out; have q6_ := HN6.out; have q7_ := HN7.out; have q8_ := HN8.out; have q9_ := HN9.out; have q10_ := HN10.out; have q11_ := HN11.out; have q12_ := HN12.out; have q13_ := HN13.out; have q14_ := HN14.out; omega)); have m3_ := Aside0.mk (Kd.S_kept (by ((with_reducible repeat (first | apply Kd.S_alloc | apply Kd.S_drewN | apply Kd.S_drew)); exact HO10.out)) hk (fun k_ h1_ h2_ => by have q1_ := HN1.out; have q2_ := HN2.out; have q3_ := HN3.out; have q4_ := HN4.out; have q5_ := HN5.out; have q6_ := HN6.out; have q7_ := HN7.out; have q8_ := HN8.out; have q9_ := HN9.out; have q10_ := HN10.out; have q11_ := HN11.out; have q12_ := HN12.out; have q13_ := HN13.out; have q14_ := HN14.out; omega)); have m4_ := Aside0.mk (Kd.R_kept (by ((with_reducible repeat (first | apply Kd.R_alloc | apply Kd.R_drewN | apply Kd.R_drew)); exact HO24.out)) hk (fun k_ h1_ h2_ => by have q1_ := HN1.out; have q2_ := HN2.out; have q3_ := HN3.out; have q4_ := HN4.out; have q5_ := HN5.out; have q6_ := HN6.out; have q7_ := HN7.out; have q8_ := HN8.out; have q9_ := HN9.out; have q10_ := HN10.out; have q11_ := HN11.out; have q12_ := HN12.out; have q13_ := HN13.out; have q14_ := HN14.out; omega)); have m5_ := Aside0.mk (Kd.S_kept (by ((with_reducible repeat (first | apply Kd.S_alloc | apply Kd.S_drewN | apply Kd.S_drew)); exact HO28.out)) hk (fun k_ h1_ h2_ => by have q1_ := HN1.out; have q2_ := HN2.out; have q3_ := HN3.out; have q4_ := HN4.out; have q5_ := HN5.out; have q6_ := HN6.out; have q7_ := HN7.out; have q8_ := HN8.out; have q9_ := HN9.out; have q10_ := HN10.out; have q11_ := HN11.out; have q12_ := HN12.out; have q13_ := HN13.out; have q14_ := HN14.out; omega)); have m6_ := Aside0.mk (Kd.S_kept (by ((with_reducible repeat (first | apply Kd.S_alloc | apply Kd.S_drewN | apply Kd.S_drew)); exact HO43.out)) hk (fun k_ h1_ h2_ => by have q1_ := HN1.out; have q2_ := HN2.out; have q3_ := HN3.out; have q4_ := HN4.out; have q5_ := HN5.out; have q6_ := HN6.out; have q7_ := HN7.out; have q8_ := HN8.out; have q9_ := HN9.out; have q10_ := HN10.out; have q11_ := HN11.out; have q12_ := HN12.out; have q13_ := HN13.out; have q14_ := HN14.out; omega)); have mO_ := Aside0.mk (show Kd.R (Kd.int .u8) 5 w1064 w.heap.size (fun k_ => n9 ≤ k_ ∧ k_ < n10) (.slice Ao38 g20.length co38) y51 from Kd.R_mono (Kd.R_tight rfl ho_) (fun k_ hk_ => HO38.out.1 k_ hk_.symm)); have mL_ := Aside0.mk (by (repeat (first | exact HZ.out | (with_reducible first | apply sz_alloc | apply sz_drewN | apply sz_drew | apply sz_set))) : n14 ≤ _); have mZ_ := Aside0.mk (Nat.le_trans mL_.out hk.1 : n14 ≤ w1064.heap.size); have mB_ := Aside0.mk hb2_; clear BK2 BK3 BK8 HO10 HO24 HO28 HO43 HB HZ HO38; have BK2 := m0_; have BK3 := m1_; have BK8 := m2_; have HO10 := m3_; have HO24 := m4_; have HO28 := m5_; have HO43 := m6_; have HO38 := mO_; have HB := mB_; have HZ := mZ_; clear m0_ m1_ m2_ m3_ m4_ m5_ m6_ mO_ mB_ mZ_ mL_; clear ho_ hb2_ hk) | ((with_reducible refine gate_callee (f := 21) rfl ?_); refine goesL_ (some 73) rfl rfl Try.func21 (by kernel_rfl) rfl #[.slice Ao38 y51.length co38, .int .i64 1] rfl (by (try simp only [List.map_toArray, List.map_cons, List.map_nil]); first | done | (rw [show g20.length = y51.length from (Kd.R_reads' HO38.out).1] <;> rfl) | rfl) ?_; (with_reducible refine (laws_heldByteS.calls k _ _ y51 1 m50 _ ?sr0 ?sc0 E14.out).mono ?_); (case sr0 => repeat (first | exact (Kd.R_reads' HO38.out).2.2 | (with_reducible refine Kd.C_alloc ?_ _) | (with_reducible refine Kd.C_drewN ?_ _) | (with_reducible refine Kd.C_drew ?_))); (case sc0 => first | exact (Kd.R_reads' HO38.out).2.1 | exact Nat.le_trans (Nat.le_of_eq (Kd.R_reads' HO38.out).1.symm) (Kd.R_reads' HO38.out).2.1); rintro e w1066 ⟨rfl, hd_⟩; have hb := hd_.below; clear hd_; refine ⟨_, rfl, ?_⟩; have m0_ := Aside0.mk (blk_below (g := gb2) (o := .cells #[.slice A0_0 l0_0.length c0_0] 24 (0, 0)) (by ((with_reducible repeat (first | refine blk_drewN ?_ _ | refine blk_drew ?_ | refine blk_alloc ?_ _)); exact BK2.out)) hb); have m1_ := Aside0.mk (blk_below (g := gb3) (o := .cells #[.int .i64 a1_0, .int .i64 a1_1, .int .i64 a1_2, .int .i64 a1_3] 26 (0, 0)) (by ((with_reducible repeat (first | refine blk_drewN ?_ _ | refine blk_drew ?_ | refine blk_alloc ?_ _)); exact BK3.out)) hb); have m2_ := Aside0.mk (blk_below (g := gb8) (o := .cells #[.slice Ao28 t8.length co28] 31 (0, 0)) (by ((with_reducible repeat (first | refine blk_drewN ?_ _ | refine blk_drew ?_ | refine blk_alloc ?_ _)); exact BK8.out)) hb); have m3_ := Aside0.mk (Kd.S_below (by ((with_reducible repeat (first | apply Kd.S_alloc | apply Kd.S_drewN | apply Kd.S_drew)); exact HO10.out)) hb); have m4_ := Aside0.mk (Kd.R_below (by ((with_reducible repeat (first | apply Kd.R_alloc | apply Kd.R_drewN | apply Kd.R_drew)); exact HO24.out)) hb); have m5_ := Aside0.mk (Kd.S_below (by ((with_reducible repeat (first | apply Kd.S_alloc | apply Kd.S_drewN | apply Kd.S_drew)); exact HO28.out)) hb); have m6_ := Aside0.mk (Kd.R_below (by ((with_reducible repeat (first | apply Kd.R_alloc | apply Kd.R_drewN | apply Kd.R_drew)); exact HO38.out)) hb); have m7_ := Aside0.mk (Kd.S_below (by ((with_reducible repeat (first | apply Kd.S_alloc | apply Kd.S_drewN | apply Kd.S_drew)); exact HO43.out)) hb); have mB_ := Aside0.mk (below_step (by (repeat (first | (with_reducible first | exact HB.out | apply below_alloc | apply pw_below_drewN | apply below_drew1 | refine below_set ?_ GE2.out | refine below_set ?_ GE3.out | refine below_set ?_ GE8.out) | exact HB.out))) hb); have mL_ := Aside0.mk (by (repeat (first | exact HZ.out | (with_reducible first | apply sz_alloc | apply sz_drewN | apply sz_drew | apply sz_set))) : n14 ≤ _); obtain ⟨n15, hn_⟩ : ∃ n_, n_ = w1066.heap.size := ⟨_, rfl⟩; have mN_ := Aside0.mk (by rw [hn_]; exact Nat.le_trans mL_.out hb.size : n14 ≤ n15); have mZ_ := Aside0.mk (Nat.le_of_eq hn_ : n15 ≤ w1066.heap.size); clear BK2 BK3 BK8 HO10 HO24 HO28 HO38 HO43 HB HZ; have BK2 := m0_; have BK3 := m1_; have BK8 := m2_; have HO10 := m3_; have HO24 := m4_; have HO28 := m5_; have HO38 := m6_; have HO43 := m7_; have HB := mB_; have HZ := mZ_; have HN15 := mN_; clear m0_ m1_ m2_ m3_ m4_ m5_ m6_ m7_ mB_ mN_ mZ_ mL_; (try clear hn_); clear hb) | (go_at_call 17; (with_reducible refine (laws_eqByteS.calls k _ _ g20 _ _ s22 true _ ?sr0 ?sc0 ?sr1 ?sc1 E8.out).mono ?_); (case sr0 => repeat (first | exact (Kd.R_reads' HO38.out).2.2 | (with_reducible refine Kd.C_alloc ?_ _) | (with_reducible refine Kd.C_drewN ?_ _) | (with_reducible refine Kd.C_drew ?_))); (case sc0 => first | exact (Kd.R_reads' HO38.out).2.1 | exact Nat.le_trans (Nat.le_of_eq (Kd.R_reads' HO38.out).1.symm) (Kd.R_reads' HO38.out).2.1); (case sr1 => repeat (first | exact (Kd.R_reads' HO24.out).2.2 | (with_reducible refine Kd.C_alloc ?_ _) | (with_reducible refine Kd.C_drewN ?_ _) | (with_reducible refine Kd.C_drew ?_))); (case sc1 => first | exact (Kd.R_reads' HO24.out).2.1 | exact Nat.le_trans (Nat.le_of_eq (Kd.R_reads' HO24.out).1.symm) (Kd.R_reads' HO24.out).2.1); rintro e w1060 ⟨rfl, hd_⟩; have hb := hd_.below; clear hd_; have m0_ := Aside0.mk (blk_below (g := gb2) (o := .cells #[.slice A0_0 l0_0.length c0_0] 24 (0, 0)) (by ((with_reducible repeat (first | refine blk_drewN ?_ _ | refine blk_drew ?_ | refine blk_alloc ?_ _)); exact BK2.out)) hb); have m1_ := Aside0.mk (blk_below (g := gb3) (o := .cells #[.int .i64 a1_0, .int .i64 a1_1, .int .i64 a1_2, .int .i64 a1_3] 26 (0, 0)) (by ((with_reducible repeat (first | refine blk_drewN ?_ _ | refine blk_drew ?_ | refine blk_alloc ?_ _)); exact BK3.out)) hb); have m2_ := Aside0.mk (blk_below (g := gb8) (o := .cells #[.slice Ao28 t8.length co28] 31 (0, 0)) (by ((with_reducible repeat (first | refine blk_drewN ?_ _ | refine blk_drew ?_ | refine blk_alloc ?_ _)); exact BK8.out)) hb); have m3_ := Aside0.mk (Kd.S_below (by ((with_reducible repeat (first | apply Kd.S_alloc | apply Kd.S_drewN | apply Kd.S_drew)); exact HO10.out)) hb); have m4_ := Aside0.mk (Kd.R_below (by ((with_reducible repeat (first | apply Kd.R_alloc | apply Kd.R_drewN | apply Kd.R_drew)); exact HO24.out)) hb); have m5_ := Aside0.mk (Kd.S_below (by ((with_reducible repeat (first | apply Kd.S_alloc | apply Kd.S_drewN | apply Kd.S_drew)); exact HO28.out)) hb); have m6_ := Aside0.mk (Kd.R_below (by ((with_reducible repeat (first | apply Kd.R_alloc | apply Kd.R_drewN | apply Kd.R_drew)); exact HO38.out)) hb); have m7_ := Aside0.mk (Kd.S_below (by ((with_reducible repeat (first | apply Kd.S_alloc | apply Kd.S_drewN | apply Kd.S_drew)); exact HO43.out)) hb); have mB_ := Aside0.mk (below_step (by (repeat (first | (with_reducible first | exact HB.out | apply below_alloc | apply pw_below_drewN | apply below_drew1 | refine below_set ?_ GE2.out | refine below_set ?_ GE3.out | refine below_set ?_ GE8.out) | exact HB.out))) hb); have mL_ := Aside0.mk (by (repeat (first | exact HZ.out | (with_reducible first | apply sz_alloc | apply sz_drewN | apply sz_drew | apply sz_set))) : n13 ≤ _); obtain ⟨n14, hn_⟩ : ∃ n_, n_ = w1060.heap.size := ⟨_, rfl⟩; have mN_ := Aside0.mk (by rw [hn_]; exact Nat.le_trans mL_.out hb.size : n13 ≤ n14); have mZ_ := Aside0.mk (Nat.le_of_eq hn_ : n14 ≤ w1060.heap.size); clear BK2 BK3 BK8 HO10 HO24 HO28 HO38 HO43 HB HZ; have BK2 := m0_; have BK3 := m1_; have BK8 := m2_; have HO10 := m3_; have HO24 := m4_; have HO28 := m5_; have HO38 := m6_; have HO43 := m7_; have HB := mB_; have HZ := mZ_; have HN14 := mN_; clear m0_ m1_ m2_ m3_ m4_ m5_ m6_ m7_ mB_ mN_ mZ_ mL_; (try clear hn_); clear hb))
  try go_wp2
  have m0_ := Aside0.mk (show (World.drew w1066).heap[gb2]? = some (Obj.cells #[.slice A0_0 l0_0.length c0_0] 24 (0, 0)) from blk_drew (by ((with_reducible repeat (first | refine blk_drewN ?_ _ | refine blk_drew ?_ | refine blk_alloc ?_ _)); exact BK2.out)))
  have m1_ := Aside0.mk (show (World.drew w1066).heap[gb3]? = some (Obj.cells #[.int .i64 a1_0, .int .i64 a1_1, .int .i64 a1_2, .int .i64 a1_3] 26 (0, 0)) from blk_drew (by ((with_reducible repeat (first | refine blk_drewN ?_ _ | refine blk_drew ?_ | refine blk_alloc ?_ _)); exact BK3.out)))
  have m2_ := Aside0.mk (show (World.drew w1066).heap[gb8]? = some (Obj.cells #[.slice Ao28 t8.length co28] 31 (0, 0)) from blk_drew (by ((with_reducible repeat (first | refine blk_drewN ?_ _ | refine blk_drew ?_ | refine blk_alloc ?_ _)); exact BK8.out)))
  have m3_ := Aside0.mk (show Kd.S (Kd.slice 5 (Kd.int .u8)) 28 w1066.drew w.heap.size (fun k_ => n3 ≤ k_ ∧ k_ < n4) (.slice Ao10 t8.length co10) t8 from Kd.S_drew (by ((with_reducible repeat (first | apply Kd.S_alloc | apply Kd.S_drewN | apply Kd.S_drew)); exact HO10.out)))
  have m4_ := Aside0.mk (show Kd.R (Kd.int .u8) 5 w1066.drew w.heap.size (fun k_ => n5 ≤ k_ ∧ k_ < n6) (.slice Ao24 s22.length co24) s22 from Kd.R_drew (by ((with_reducible repeat (first | apply Kd.R_alloc | apply Kd.R_drewN | apply Kd.R_drew)); exact HO24.out)))
  have m5_ := Aside0.mk (show Kd.S (Kd.slice 5 (Kd.int .u8)) 28 w1066.drew w.heap.size (fun k_ => n6 ≤ k_ ∧ k_ < n7) (.slice Ao28 t8.length co28) y47 from Kd.S_drew (by ((with_reducible repeat (first | apply Kd.S_alloc | apply Kd.S_drewN | apply Kd.S_drew)); exact HO28.out)))
  have m6_ := Aside0.mk (show Kd.R (Kd.int .u8) 5 w1066.drew w.heap.size (fun k_ => n9 ≤ k_ ∧ k_ < n10) (.slice Ao38 g20.length co38) y51 from Kd.R_drew (by ((with_reducible repeat (first | apply Kd.R_alloc | apply Kd.R_drewN | apply Kd.R_drew)); exact HO38.out)))
  have m7_ := Aside0.mk (show Kd.S (Kd.slice 5 (Kd.int .u8)) 28 w1066.drew w.heap.size (fun k_ => n11 ≤ k_ ∧ k_ < n12) (.slice Ao43 t8.length co43) t8 from Kd.S_drew (by ((with_reducible repeat (first | apply Kd.S_alloc | apply Kd.S_drewN | apply Kd.S_drew)); exact HO43.out)))
  have m8_ := Aside0.mk (show Below w.heap.size w w1066.drew from below_drew1 (by (repeat (first | (with_reducible first | exact HB.out | apply below_alloc | apply pw_below_drewN | apply below_drew1 | refine below_set ?_ GE2.out | refine below_set ?_ GE3.out | refine below_set ?_ GE8.out) | exact HB.out))))
  have m9_ := Aside0.mk (show n15 ≤ w1066.drew.heap.size from sz_drew (by (repeat (first | exact HZ.out | (with_reducible first | apply sz_alloc | apply sz_drewN | apply sz_drew | apply sz_set)))))
  clear BK2 BK3 BK8 HO10 HO24 HO28 HO38 HO43 HB HZ
  have BK2 := m0_
  have BK3 := m1_
  have BK8 := m2_
  have HO10 := m3_
  have HO24 := m4_
  have HO28 := m5_
  have HO38 := m6_
  have HO43 := m7_
  have HB := m8_
  have HZ := m9_
  clear m0_ m1_ m2_ m3_ m4_ m5_ m6_ m7_ m8_ m9_
  refine start_ (n := 10) (S := fun w' => w'.cell? ⟨gb2, 0, none⟩ = some (.slice A0_0 l0_0.length c0_0) ∧ w'.cell? ⟨gb3, 0, none⟩ = some (.int .i64 a1_0) ∧ w'.cell? ⟨gb3, 1, none⟩ = some (.int .i64 a1_1) ∧ w'.cell? ⟨gb3, 2, none⟩ = some (.int .i64 a1_2) ∧ w'.cell? ⟨gb3, 3, none⟩ = some (.int .i64 a1_3)) (ds := []) #[false, false, false, false, false, false, false, false, false, false] (by kernel_rfl) rfl rfl ⟨(blk_cell BK2.out 0).trans rfl, (blk_cell BK3.out 0).trans rfl, (blk_cell BK3.out 1).trans rfl, (blk_cell BK3.out 2).trans rfl, (blk_cell BK3.out 3).trans rfl⟩ (fun hHeld => ?_)
  generalize w1066.drew = w2054 at BK2 BK3 BK8 HO10 HO24 HO28 HO38 HO43 HB HZ hHeld ⊢
  refine take_ (i := 0) (N := some 80) (v := ?_) (a' := ?_) #[true, false, false, false, false, false, false, false, false, false] rfl rfl (by kernel_rfl) (fun _ _ _ h => h) (Or.inl ⟨by rfl, ?_⟩) hHeld ?_ ?_
  rotate_left
  · rintro w' ⟨s0_, s1_, s2_, s3_, s4_⟩
    go_simp
    with_reducible rfl
  rotate_left
  · simp only [Act.put, List.setIfInBounds_toArray, List.set_cons_zero, List.set_cons_succ, i64_w, i32_w]
    rfl
  refine take_ (i := 2) (N := some 82) (v := ?_) (a' := ?_) #[true, false, true, false, false, false, false, false, false, false] rfl rfl (by kernel_rfl) (fun _ _ _ h => h) (Or.inl ⟨by rfl, ?_⟩) hHeld ?_ ?_
  rotate_left
  · rintro w' ⟨s0_, s1_, s2_, s3_, s4_⟩
    go_simp
    with_reducible rfl
  rotate_left
  · simp only [Act.put, List.setIfInBounds_toArray, List.set_cons_zero, List.set_cons_succ, i64_w, i32_w]
    rfl
  refine one_ (i := 1) (N := some 81) #[true, true, true, false, false, false, false, false, false, false] rfl rfl (by kernel_rfl) (by decide) (fun K hK => ?_)
  refine goes_ Try.func14 (by kernel_rfl) rfl #[.agg #[.slice A0_0 l0_0.length c0_0]] (by rfl) rfl rfl (by (try simp only [List.map_toArray, List.map_cons, List.map_nil]); first | done | rfl | (simp only [List.length_drop, List.length_take]; rfl)) ?_
  (with_reducible refine (laws_toMemory.calls k _ _ l0_0 t8 _ ?sr0 ?sc0 E2.out).mono ?_)
  (case sr0 => exact Kd.C_below HR0_0.out (by (repeat (first | (with_reducible first | exact HB.out | apply below_alloc | apply pw_below_drewN | apply below_drew1 | refine below_set ?_ GE2.out | refine below_set ?_ GE3.out | refine below_set ?_ GE8.out) | exact HB.out))))
  (case sc0 => exact HC0_0.out)
  rintro e w1070 ⟨v15_0, rfl, ho0_, hb⟩
  refine ⟨_, rfl, ?_⟩
  have m0_ := Aside0.mk (blk_below (g := gb2) (o := .cells #[.slice A0_0 l0_0.length c0_0] 24 (0, 0)) (by ((with_reducible repeat (first | refine blk_drewN ?_ _ | refine blk_drew ?_ | refine blk_alloc ?_ _)); exact BK2.out)) hb)
  have m1_ := Aside0.mk (blk_below (g := gb3) (o := .cells #[.int .i64 a1_0, .int .i64 a1_1, .int .i64 a1_2, .int .i64 a1_3] 26 (0, 0)) (by ((with_reducible repeat (first | refine blk_drewN ?_ _ | refine blk_drew ?_ | refine blk_alloc ?_ _)); exact BK3.out)) hb)
  have m2_ := Aside0.mk (blk_below (g := gb8) (o := .cells #[.slice Ao28 t8.length co28] 31 (0, 0)) (by ((with_reducible repeat (first | refine blk_drewN ?_ _ | refine blk_drew ?_ | refine blk_alloc ?_ _)); exact BK8.out)) hb)
  have m3_ := Aside0.mk (Kd.S_below (by ((with_reducible repeat (first | apply Kd.S_alloc | apply Kd.S_drewN | apply Kd.S_drew)); exact HO10.out)) hb)
  have m4_ := Aside0.mk (Kd.R_below (by ((with_reducible repeat (first | apply Kd.R_alloc | apply Kd.R_drewN | apply Kd.R_drew)); exact HO24.out)) hb)
  have m5_ := Aside0.mk (Kd.S_below (by ((with_reducible repeat (first | apply Kd.S_alloc | apply Kd.S_drewN | apply Kd.S_drew)); exact HO28.out)) hb)
  have m6_ := Aside0.mk (Kd.R_below (by ((with_reducible repeat (first | apply Kd.R_alloc | apply Kd.R_drewN | apply Kd.R_drew)); exact HO38.out)) hb)
  have m7_ := Aside0.mk (Kd.S_below (by ((with_reducible repeat (first | apply Kd.S_alloc | apply Kd.S_drewN | apply Kd.S_drew)); exact HO43.out)) hb)
  have mB_ := Aside0.mk (below_step (by (repeat (first | (with_reducible first | exact HB.out | apply below_alloc | apply pw_below_drewN | apply below_drew1 | refine below_set ?_ GE2.out | refine below_set ?_ GE3.out | refine below_set ?_ GE8.out) | exact HB.out))) hb)
  have mL_ := Aside0.mk (by (repeat (first | exact HZ.out | (with_reducible first | apply sz_alloc | apply sz_drewN | apply sz_drew | apply sz_set))) : n15 ≤ _)
  obtain ⟨n16, hn_⟩ : ∃ n_, n_ = w1070.heap.size := ⟨_, rfl⟩
  have mN_ := Aside0.mk (by rw [hn_]; exact Nat.le_trans mL_.out hb.size : n15 ≤ n16)
  have mZ_ := Aside0.mk (Nat.le_of_eq hn_ : n16 ≤ w1070.heap.size)
  have xHO57_ := Aside0.mk (show Kd.S (Kd.slice 5 (Kd.int .u8)) 28 w1070 w.heap.size (fun k_ => n15 ≤ k_ ∧ k_ < n16) _ t8 from Kd.S_mono (Kd.S_lower (Kd.S_bound ho0_) (below_size (by (repeat (first | (with_reducible first | exact HB.out | apply below_alloc | apply pw_below_drewN | apply below_drew1 | refine below_set ?_ GE2.out | refine below_set ?_ GE3.out | refine below_set ?_ GE8.out) | exact HB.out))))) (fun k_ hk_ => ⟨Nat.le_trans mL_.out hk_.2.1, by rw [hn_]; exact hk_.2.2.1⟩))
  clear BK2 BK3 BK8 HO10 HO24 HO28 HO38 HO43 HB HZ
  have BK2 := m0_
  have BK3 := m1_
  have BK8 := m2_
  have HO10 := m3_
  have HO24 := m4_
  have HO28 := m5_
  have HO38 := m6_
  have HO43 := m7_
  have HB := mB_
  have HZ := mZ_
  have HN16 := mN_
  have HO57 := xHO57_
  clear m0_ m1_ m2_ m3_ m4_ m5_ m6_ m7_ mB_ mN_ mZ_ mL_ xHO57_
  (try clear hn_)
  clear hb ho0_
  obtain ⟨Ao57, co57, eo_⟩ := Kd.S_slice HO57.out; subst eo_
  refine hK.out _ _ ⟨(blk_cell BK2.out 0).trans rfl, (blk_cell BK3.out 0).trans rfl, (blk_cell BK3.out 1).trans rfl, (blk_cell BK3.out 2).trans rfl, (blk_cell BK3.out 3).trans rfl⟩ (fun hHeld => ?_)
  clear hK K
  refine norm_ (a' := ?_) ?_ ?_
  rotate_left
  · show Act.put _ (some 81) _ = _
    simp only [Act.put, List.setIfInBounds_toArray, List.set_cons_zero, List.set_cons_succ, i64_w, i32_w]
    rfl
  refine one_ (i := 3) (N := some 83) #[true, true, true, true, false, false, false, false, false, false] rfl rfl (by kernel_rfl) (by decide) (fun K hK => ?_)
  refine goes_ Try.func15 (by kernel_rfl) rfl #[.agg #[.int .i64 a1_0, .int .i64 a1_1, .int .i64 a1_2, .int .i64 a1_3]] (by rfl) rfl rfl (by (try simp only [List.map_toArray, List.map_cons, List.map_nil]); first | done | rfl | (simp only [List.length_drop, List.length_take]; rfl)) ?_
  (with_reducible refine (laws_toWindow.calls a1_0 a1_1 a1_2 a1_3 t15 t16 t17 t18 _ E3.out).mono ?_)
  rintro e w1077 ⟨rfl, hb⟩
  refine ⟨_, rfl, ?_⟩
  have m0_ := Aside0.mk (blk_below (g := gb2) (o := .cells #[.slice A0_0 l0_0.length c0_0] 24 (0, 0)) (by ((with_reducible repeat (first | refine blk_drewN ?_ _ | refine blk_drew ?_ | refine blk_alloc ?_ _)); exact BK2.out)) hb)
  have m1_ := Aside0.mk (blk_below (g := gb3) (o := .cells #[.int .i64 a1_0, .int .i64 a1_1, .int .i64 a1_2, .int .i64 a1_3] 26 (0, 0)) (by ((with_reducible repeat (first | refine blk_drewN ?_ _ | refine blk_drew ?_ | refine blk_alloc ?_ _)); exact BK3.out)) hb)
  have m2_ := Aside0.mk (blk_below (g := gb8) (o := .cells #[.slice Ao28 t8.length co28] 31 (0, 0)) (by ((with_reducible repeat (first | refine blk_drewN ?_ _ | refine blk_drew ?_ | refine blk_alloc ?_ _)); exact BK8.out)) hb)
  have m3_ := Aside0.mk (Kd.S_below (by ((with_reducible repeat (first | apply Kd.S_alloc | apply Kd.S_drewN | apply Kd.S_drew)); exact HO10.out)) hb)
  have m4_ := Aside0.mk (Kd.R_below (by ((with_reducible repeat (first | apply Kd.R_alloc | apply Kd.R_drewN | apply Kd.R_drew)); exact HO24.out)) hb)
  have m5_ := Aside0.mk (Kd.S_below (by ((with_reducible repeat (first | apply Kd.S_alloc | apply Kd.S_drewN | apply Kd.S_drew)); exact HO28.out)) hb)
  have m6_ := Aside0.mk (Kd.R_below (by ((with_reducible repeat (first | apply Kd.R_alloc | apply Kd.R_drewN | apply Kd.R_drew)); exact HO38.out)) hb)
  have m7_ := Aside0.mk (Kd.S_below (by ((with_reducible repeat (first | apply Kd.S_alloc | apply Kd.S_drewN | apply Kd.S_drew)); exact HO43.out)) hb)
  have m8_ := Aside0.mk (Kd.S_below (by ((with_reducible repeat (first | apply Kd.S_alloc | apply Kd.S_drewN | apply Kd.S_drew)); exact HO57.out)) hb)
  have mB_ := Aside0.mk (below_step (by (repeat (first | (with_reducible first | exact HB.out | apply below_alloc | apply pw_below_drewN | apply below_drew1 | refine below_set ?_ GE2.out | refine below_set ?_ GE3.out | refine below_set ?_ GE8.out) | exact HB.out))) hb)
  have mL_ := Aside0.mk (by (repeat (first | exact HZ.out | (with_reducible first | apply sz_alloc | apply sz_drewN | apply sz_drew | apply sz_set))) : n16 ≤ _)
  obtain ⟨n17, hn_⟩ : ∃ n_, n_ = w1077.heap.size := ⟨_, rfl⟩
  have mN_ := Aside0.mk (by rw [hn_]; exact Nat.le_trans mL_.out hb.size : n16 ≤ n17)
  have mZ_ := Aside0.mk (Nat.le_of_eq hn_ : n17 ≤ w1077.heap.size)
  clear BK2 BK3 BK8 HO10 HO24 HO28 HO38 HO43 HO57 HB HZ
  have BK2 := m0_
  have BK3 := m1_
  have BK8 := m2_
  have HO10 := m3_
  have HO24 := m4_
  have HO28 := m5_
  have HO38 := m6_
  have HO43 := m7_
  have HO57 := m8_
  have HB := mB_
  have HZ := mZ_
  have HN17 := mN_
  clear m0_ m1_ m2_ m3_ m4_ m5_ m6_ m7_ m8_ mB_ mN_ mZ_ mL_
  (try clear hn_)
  clear hb
  refine hK.out _ _ ⟨(blk_cell BK2.out 0).trans rfl, (blk_cell BK3.out 0).trans rfl, (blk_cell BK3.out 1).trans rfl, (blk_cell BK3.out 2).trans rfl, (blk_cell BK3.out 3).trans rfl⟩ (fun hHeld => ?_)
  clear hK K
  refine norm_ (a' := ?_) ?_ ?_
  rotate_left
  · show Act.put _ (some 83) _ = _
    simp only [Act.put, List.setIfInBounds_toArray, List.set_cons_zero, List.set_cons_succ, i64_w, i32_w]
    rfl
  refine one_ (i := 4) (N := some 84) #[true, true, true, true, true, false, false, false, false, false] rfl rfl (by kernel_rfl) (by decide) (fun K hK => ?_)
  refine goes_ Try.func16 (by kernel_rfl) rfl #[.agg #[.slice Ao57 t8.length co57], .agg #[.int .i64 t15, .int .i64 t16, .int .i64 t17, .int .i64 t18]] (by rfl) rfl rfl (by (try simp only [List.map_toArray, List.map_cons, List.map_nil]); first | done | rfl | (simp only [List.length_drop, List.length_take]; rfl)) ?_
  (with_reducible refine (impl_WindowBytes.calls k _ _ t8 t15 t16 t17 t18 g20 ok21 _ ?sr0 ?sc0 E7.out).mono ?_)
  (case sr0 => repeat (first | exact (Kd.S_reads' HO57.out).2.2 | (with_reducible refine Kd.C_alloc ?_ _) | (with_reducible refine Kd.C_drewN ?_ _) | (with_reducible refine Kd.C_drew ?_)))
  (case sc0 => first | exact (Kd.S_reads' HO57.out).2.1 | exact Nat.le_trans (Nat.le_of_eq (Kd.S_reads' HO57.out).1.symm) (Kd.S_reads' HO57.out).2.1)
  rintro e w1079 ⟨v17_0, rfl, ho0_, hb⟩
  refine ⟨_, rfl, ?_⟩
  have m0_ := Aside0.mk (blk_below (g := gb2) (o := .cells #[.slice A0_0 l0_0.length c0_0] 24 (0, 0)) (by ((with_reducible repeat (first | refine blk_drewN ?_ _ | refine blk_drew ?_ | refine blk_alloc ?_ _)); exact BK2.out)) hb)
  have m1_ := Aside0.mk (blk_below (g := gb3) (o := .cells #[.int .i64 a1_0, .int .i64 a1_1, .int .i64 a1_2, .int .i64 a1_3] 26 (0, 0)) (by ((with_reducible repeat (first | refine blk_drewN ?_ _ | refine blk_drew ?_ | refine blk_alloc ?_ _)); exact BK3.out)) hb)
  have m2_ := Aside0.mk (blk_below (g := gb8) (o := .cells #[.slice Ao28 t8.length co28] 31 (0, 0)) (by ((with_reducible repeat (first | refine blk_drewN ?_ _ | refine blk_drew ?_ | refine blk_alloc ?_ _)); exact BK8.out)) hb)
  have m3_ := Aside0.mk (Kd.S_below (by ((with_reducible repeat (first | apply Kd.S_alloc | apply Kd.S_drewN | apply Kd.S_drew)); exact HO10.out)) hb)
  have m4_ := Aside0.mk (Kd.R_below (by ((with_reducible repeat (first | apply Kd.R_alloc | apply Kd.R_drewN | apply Kd.R_drew)); exact HO24.out)) hb)
  have m5_ := Aside0.mk (Kd.S_below (by ((with_reducible repeat (first | apply Kd.S_alloc | apply Kd.S_drewN | apply Kd.S_drew)); exact HO28.out)) hb)
  have m6_ := Aside0.mk (Kd.R_below (by ((with_reducible repeat (first | apply Kd.R_alloc | apply Kd.R_drewN | apply Kd.R_drew)); exact HO38.out)) hb)
  have m7_ := Aside0.mk (Kd.S_below (by ((with_reducible repeat (first | apply Kd.S_alloc | apply Kd.S_drewN | apply Kd.S_drew)); exact HO43.out)) hb)
  have m8_ := Aside0.mk (Kd.S_below (by ((with_reducible repeat (first | apply Kd.S_alloc | apply Kd.S_drewN | apply Kd.S_drew)); exact HO57.out)) hb)
  have mB_ := Aside0.mk (below_step (by (repeat (first | (with_reducible first | exact HB.out | apply below_alloc | apply pw_below_drewN | apply below_drew1 | refine below_set ?_ GE2.out | refine below_set ?_ GE3.out | refine below_set ?_ GE8.out) | exact HB.out))) hb)
  have mL_ := Aside0.mk (by (repeat (first | exact HZ.out | (with_reducible first | apply sz_alloc | apply sz_drewN | apply sz_drew | apply sz_set))) : n17 ≤ _)
  obtain ⟨n18, hn_⟩ : ∃ n_, n_ = w1079.heap.size := ⟨_, rfl⟩
  have mN_ := Aside0.mk (by rw [hn_]; exact Nat.le_trans mL_.out hb.size : n17 ≤ n18)
  have mZ_ := Aside0.mk (Nat.le_of_eq hn_ : n18 ≤ w1079.heap.size)
  have xHO64_ := Aside0.mk (show Kd.R (Kd.int .u8) 5 w1079 w.heap.size (fun k_ => n17 ≤ k_ ∧ k_ < n18) _ g20 from Kd.R_mono (Kd.R_lower (Kd.R_bound ho0_) (below_size (by (repeat (first | (with_reducible first | exact HB.out | apply below_alloc | apply pw_below_drewN | apply below_drew1 | refine below_set ?_ GE2.out | refine below_set ?_ GE3.out | refine below_set ?_ GE8.out) | exact HB.out))))) (fun k_ hk_ => ⟨Nat.le_trans mL_.out hk_.2.1, by rw [hn_]; exact hk_.2.2.1⟩))
  clear BK2 BK3 BK8 HO10 HO24 HO28 HO38 HO43 HO57 HB HZ
  have BK2 := m0_
  have BK3 := m1_
  have BK8 := m2_
  have HO10 := m3_
  have HO24 := m4_
  have HO28 := m5_
  have HO38 := m6_
  have HO43 := m7_
  have HO57 := m8_
  have HB := mB_
  have HZ := mZ_
  have HN18 := mN_
  have HO64 := xHO64_
  clear m0_ m1_ m2_ m3_ m4_ m5_ m6_ m7_ m8_ mB_ mN_ mZ_ mL_ xHO64_
  (try clear hn_)
  clear hb ho0_
  obtain ⟨Ao64, co64, eo_⟩ := Kd.R_slice HO64.out; subst eo_
  refine hK.out _ _ ⟨(blk_cell BK2.out 0).trans rfl, (blk_cell BK3.out 0).trans rfl, (blk_cell BK3.out 1).trans rfl, (blk_cell BK3.out 2).trans rfl, (blk_cell BK3.out 3).trans rfl⟩ (fun hHeld => ?_)
  clear hK K
  refine norm_ (a' := ?_) ?_ ?_
  rotate_left
  · show Act.put _ (some 84) _ = _
    simp only [Act.put, List.setIfInBounds_toArray, List.set_cons_zero, List.set_cons_succ, i64_w, i32_w]
    rfl
  refine pure_ (i := 5) (N := some 79) (v := ?_) (a' := ?_) #[true, true, true, true, true, true, false, false, false, false] rfl rfl (by kernel_rfl) (fun _ _ _ h => h) (Or.inl ⟨by rfl, ?_⟩) ?_ ?_
  rotate_left
  · intro w'
    go_simp
    with_reducible rfl
  rotate_left
  · simp only [Act.put, List.setIfInBounds_toArray, List.set_cons_zero, List.set_cons_succ, i64_w, i32_w]
    rfl
  refine pure_ (i := 6) (N := some 85) (v := ?_) (a' := ?_) #[true, true, true, true, true, true, true, false, false, false] rfl rfl (by kernel_rfl) (fun _ _ _ h => h) (Or.inl ⟨by rfl, ?_⟩) ?_ ?_
  rotate_left
  · intro w'
    go_simp
    with_reducible rfl
  rotate_left
  · simp only [Act.put, List.setIfInBounds_toArray, List.set_cons_zero, List.set_cons_succ, i64_w, i32_w]
    rfl
  refine pure_ (i := 7) (N := some 86) (v := ?_) (a' := ?_) #[true, true, true, true, true, true, true, true, false, false] rfl rfl (by kernel_rfl) (fun _ _ _ h => h) (Or.inl ⟨by rfl, ?_⟩) ?_ ?_
  rotate_left
  · intro w'
    go_simp
    with_reducible rfl
  rotate_left
  · simp only [Act.put, List.setIfInBounds_toArray, List.set_cons_zero, List.set_cons_succ, i64_w, i32_w]
    rfl
  refine pure_ (i := 8) (N := some 14) (v := ?_) (a' := ?_) #[true, true, true, true, true, true, true, true, true, false] rfl rfl (by kernel_rfl) (fun _ _ _ h => h) (Or.inl ⟨by rfl, ?_⟩) ?_ ?_
  rotate_left
  · intro w'
    go_simp
    with_reducible rfl
  rotate_left
  · simp only [Act.put, List.setIfInBounds_toArray, List.set_cons_zero, List.set_cons_succ, i64_w, i32_w]
    rfl
  refine pure_ (i := 9) (N := some 15) (v := ?_) (a' := ?_) #[true, true, true, true, true, true, true, true, true, true] rfl rfl (by kernel_rfl) (fun _ _ _ h => h) (Or.inl ⟨by rfl, ?_⟩) ?_ ?_
  rotate_left
  · intro w'
    go_simp
    with_reducible rfl
  rotate_left
  · simp only [Act.put, List.setIfInBounds_toArray, List.set_cons_zero, List.set_cons_succ, i64_w, i32_w]
    rfl
  refine done_ (by kernel_rfl) ?_
  go_wp2_with (first | ((with_reducible refine gate_callee (f := 17) rfl ?_); refine goesL_ (some 89) rfl rfl Try.func17 (by kernel_rfl) rfl #[.slice Ao64 g20.length co64, .slice Ao24 s22.length co24] rfl (by (try simp only [List.map_toArray, List.map_cons, List.map_nil]); first | done | rfl) ?_; (with_reducible refine (laws_eqByteS.calls k _ _ g20 _ _ s22 true _ ?sr0 ?sc0 ?sr1 ?sc1 E8.out).mono ?_); (case sr0 => repeat (first | exact (Kd.R_reads' HO64.out).2.2 | (with_reducible refine Kd.C_alloc ?_ _) | (with_reducible refine Kd.C_drewN ?_ _) | (with_reducible refine Kd.C_drew ?_))); (case sc0 => first | exact (Kd.R_reads' HO64.out).2.1 | exact Nat.le_trans (Nat.le_of_eq (Kd.R_reads' HO64.out).1.symm) (Kd.R_reads' HO64.out).2.1); (case sr1 => repeat (first | exact (Kd.R_reads' HO24.out).2.2 | (with_reducible refine Kd.C_alloc ?_ _) | (with_reducible refine Kd.C_drewN ?_ _) | (with_reducible refine Kd.C_drew ?_))); (case sc1 => first | exact (Kd.R_reads' HO24.out).2.1 | exact Nat.le_trans (Nat.le_of_eq (Kd.R_reads' HO24.out).1.symm) (Kd.R_reads' HO24.out).2.1); rintro e w1082 ⟨rfl, hd_⟩; have hb := hd_.below; clear hd_; refine ⟨_, rfl, ?_⟩; have m0_ := Aside0.mk (blk_below (g := gb2) (o := .cells #[.slice A0_0 l0_0.length c0_0] 24 (0, 0)) (by ((with_reducible repeat (first | refine blk_drewN ?_ _ | refine blk_drew ?_ | refine blk_alloc ?_ _)); exact BK2.out)) hb); have m1_ := Aside0.mk (blk_below (g := gb3) (o := .cells #[.int .i64 a1_0, .int .i64 a1_1, .int .i64 a1_2, .int .i64 a1_3] 26 (0, 0)) (by ((with_reducible repeat (first | refine blk_drewN ?_ _ | refine blk_drew ?_ | refine blk_alloc ?_ _)); exact BK3.out)) hb); have m2_ := Aside0.mk (blk_below (g := gb8) (o := .cells #[.slice Ao28 t8.length co28] 31 (0, 0)) (by ((with_reducible repeat (first | refine blk_drewN ?_ _ | refine blk_drew ?_ | refine blk_alloc ?_ _)); exact BK8.out)) hb); have m3_ := Aside0.mk (Kd.S_below (by ((with_reducible repeat (first | apply Kd.S_alloc | apply Kd.S_drewN | apply Kd.S_drew)); exact HO10.out)) hb); have m4_ := Aside0.mk (Kd.R_below (by ((with_reducible repeat (first | apply Kd.R_alloc | apply Kd.R_drewN | apply Kd.R_drew)); exact HO24.out)) hb); have m5_ := Aside0.mk (Kd.S_below (by ((with_reducible repeat (first | apply Kd.S_alloc | apply Kd.S_drewN | apply Kd.S_drew)); exact HO28.out)) hb); have m6_ := Aside0.mk (Kd.R_below (by ((with_reducible repeat (first | apply Kd.R_alloc | apply Kd.R_drewN | apply Kd.R_drew)); exact HO38.out)) hb); have m7_ := Aside0.mk (Kd.S_below (by ((with_reducible repeat (first | apply Kd.S_alloc | apply Kd.S_drewN | apply Kd.S_drew)); exact HO43.out)) hb); have m8_ := Aside0.mk (Kd.S_below (by ((with_reducible repeat (first | apply Kd.S_alloc | apply Kd.S_drewN | apply Kd.S_drew)); exact HO57.out)) hb); have m9_ := Aside0.mk (Kd.R_below (by ((with_reducible repeat (first | apply Kd.R_alloc | apply Kd.R_drewN | apply Kd.R_drew)); exact HO64.out)) hb); have mB_ := Aside0.mk (below_step (by (repeat (first | (with_reducible first | exact HB.out | apply below_alloc | apply pw_below_drewN | apply below_drew1 | refine below_set ?_ GE2.out | refine below_set ?_ GE3.out | refine below_set ?_ GE8.out) | exact HB.out))) hb); have mL_ := Aside0.mk (by (repeat (first | exact HZ.out | (with_reducible first | apply sz_alloc | apply sz_drewN | apply sz_drew | apply sz_set))) : n18 ≤ _); obtain ⟨n19, hn_⟩ : ∃ n_, n_ = w1082.heap.size := ⟨_, rfl⟩; have mN_ := Aside0.mk (by rw [hn_]; exact Nat.le_trans mL_.out hb.size : n18 ≤ n19); have mZ_ := Aside0.mk (Nat.le_of_eq hn_ : n19 ≤ w1082.heap.size); clear BK2 BK3 BK8 HO10 HO24 HO28 HO38 HO43 HO57 HO64 HB HZ; have BK2 := m0_; have BK3 := m1_; have BK8 := m2_; have HO10 := m3_; have HO24 := m4_; have HO28 := m5_; have HO38 := m6_; have HO43 := m7_; have HO57 := m8_; have HO64 := m9_; have HB := mB_; have HZ := mZ_; have HN19 := mN_; clear m0_ m1_ m2_ m3_ m4_ m5_ m6_ m7_ m8_ m9_ mB_ mN_ mZ_ mL_; (try clear hn_); clear hb) | ((with_reducible refine gate_callee (f := 21) rfl ?_); refine goesL_ (some 98) rfl rfl Try.func21 (by kernel_rfl) rfl #[.slice Ao38 y51.length co38, .int .i64 1] rfl (by (try simp only [List.map_toArray, List.map_cons, List.map_nil]); first | done | (rw [show g20.length = y51.length from (Kd.R_reads' HO38.out).1] <;> rfl) | rfl) ?_; (with_reducible refine (laws_heldByteS.calls k _ _ y51 1 m50 _ ?sr0 ?sc0 E14.out).mono ?_); (case sr0 => repeat (first | exact (Kd.R_reads' HO38.out).2.2 | (with_reducible refine Kd.C_alloc ?_ _) | (with_reducible refine Kd.C_drewN ?_ _) | (with_reducible refine Kd.C_drew ?_))); (case sc0 => first | exact (Kd.R_reads' HO38.out).2.1 | exact Nat.le_trans (Nat.le_of_eq (Kd.R_reads' HO38.out).1.symm) (Kd.R_reads' HO38.out).2.1); rintro e w1084 ⟨rfl, hd_⟩; have hb := hd_.below; clear hd_; refine ⟨_, rfl, ?_⟩; have m0_ := Aside0.mk (blk_below (g := gb2) (o := .cells #[.slice A0_0 l0_0.length c0_0] 24 (0, 0)) (by ((with_reducible repeat (first | refine blk_drewN ?_ _ | refine blk_drew ?_ | refine blk_alloc ?_ _)); exact BK2.out)) hb); have m1_ := Aside0.mk (blk_below (g := gb3) (o := .cells #[.int .i64 a1_0, .int .i64 a1_1, .int .i64 a1_2, .int .i64 a1_3] 26 (0, 0)) (by ((with_reducible repeat (first | refine blk_drewN ?_ _ | refine blk_drew ?_ | refine blk_alloc ?_ _)); exact BK3.out)) hb); have m2_ := Aside0.mk (blk_below (g := gb8) (o := .cells #[.slice Ao28 t8.length co28] 31 (0, 0)) (by ((with_reducible repeat (first | refine blk_drewN ?_ _ | refine blk_drew ?_ | refine blk_alloc ?_ _)); exact BK8.out)) hb); have m3_ := Aside0.mk (Kd.S_below (by ((with_reducible repeat (first | apply Kd.S_alloc | apply Kd.S_drewN | apply Kd.S_drew)); exact HO10.out)) hb); have m4_ := Aside0.mk (Kd.R_below (by ((with_reducible repeat (first | apply Kd.R_alloc | apply Kd.R_drewN | apply Kd.R_drew)); exact HO24.out)) hb); have m5_ := Aside0.mk (Kd.S_below (by ((with_reducible repeat (first | apply Kd.S_alloc | apply Kd.S_drewN | apply Kd.S_drew)); exact HO28.out)) hb); have m6_ := Aside0.mk (Kd.R_below (by ((with_reducible repeat (first | apply Kd.R_alloc | apply Kd.R_drewN | apply Kd.R_drew)); exact HO38.out)) hb); have m7_ := Aside0.mk (Kd.S_below (by ((with_reducible repeat (first | apply Kd.S_alloc | apply Kd.S_drewN | apply Kd.S_drew)); exact HO43.out)) hb); have m8_ := Aside0.mk (Kd.S_below (by ((with_reducible repeat (first | apply Kd.S_alloc | apply Kd.S_drewN | apply Kd.S_drew)); exact HO57.out)) hb); have m9_ := Aside0.mk (Kd.R_below (by ((with_reducible repeat (first | apply Kd.R_alloc | apply Kd.R_drewN | apply Kd.R_drew)); exact HO64.out)) hb); have mB_ := Aside0.mk (below_step (by (repeat (first | (with_reducible first | exact HB.out | apply below_alloc | apply pw_below_drewN | apply below_drew1 | refine below_set ?_ GE2.out | refine below_set ?_ GE3.out | refine below_set ?_ GE8.out) | exact HB.out))) hb); have mL_ := Aside0.mk (by (repeat (first | exact HZ.out | (with_reducible first | apply sz_alloc | apply sz_drewN | apply sz_drew | apply sz_set))) : n19 ≤ _); obtain ⟨n20, hn_⟩ : ∃ n_, n_ = w1084.heap.size := ⟨_, rfl⟩; have mN_ := Aside0.mk (by rw [hn_]; exact Nat.le_trans mL_.out hb.size : n19 ≤ n20); have mZ_ := Aside0.mk (Nat.le_of_eq hn_ : n20 ≤ w1084.heap.size); clear BK2 BK3 BK8 HO10 HO24 HO28 HO38 HO43 HO57 HO64 HB HZ; have BK2 := m0_; have BK3 := m1_; have BK8 := m2_; have HO10 := m3_; have HO24 := m4_; have HO28 := m5_; have HO38 := m6_; have HO43 := m7_; have HO57 := m8_; have HO64 := m9_; have HB := mB_; have HZ := mZ_; have HN20 := mN_; clear m0_ m1_ m2_ m3_ m4_ m5_ m6_ m7_ m8_ m9_ mB_ mN_ mZ_ mL_; (try clear hn_); clear hb))
  go_ret
  exact ⟨rfl, by (repeat (first | (with_reducible first | exact HB.out | apply below_alloc | apply pw_below_drewN | apply below_drew1 | refine below_set ?_ GE2.out | refine below_set ?_ GE3.out | refine below_set ?_ GE8.out) | exact HB.out))⟩
end Go.Proofs.Ytaoffejflichjaa.P
