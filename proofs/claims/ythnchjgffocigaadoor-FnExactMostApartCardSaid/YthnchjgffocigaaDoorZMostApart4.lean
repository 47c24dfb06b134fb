/- The texts YthnchjgffocigaaDoorWalkFnExactMostApart, YthnchjgffocigaaDoorOpen, YthnchjgffocigaaDoorStFnExactMostApart, YthnchjgffocigaaDoorWins, YthnchjgffocigaaDoorMkBytesQ, YthnchjgffocigaaDoorMkWins, YthnchjgffocigaaDoorMkInts, YthnchjgffocigaaDoorEqInts, YthnchjgffocigaaDoorSm, YthnchjgffocigaaDoorOv, YthnchjgffocigaaDoorWatched, YthnchjgffocigaaDoorIz, YthnchjgffocigaaDoorBestP, YthnchjgffocigaaDoorBestQ, YthnchjgffocigaaDoorPureFnExactMostApart, YthnchjgffocigaaDoorRowFnExactMostApart, without what the row does not need: words for rows in memory, contracts of functions, plain lemmas, the row. -/
import Derived.Test.YthnchjgffocigaaDoorZMostApart3
import Derived.ProofKit
import Derived.Lib.SmallJoins
import Derived.Deep.Slices
import Derived.Deep.Strs
import Derived.WalkKit
import Derived.Test.YthnchjgffocigaaDoorTie
import Derived.Test.YthnchjgffocigaaDoorCards
import Derived.LaidLaws
import Derived.LaidMore
import Derived.SevenTiedAt
import Derived.Stop.LaidErr
import Derived.MakeChecks
import Derived.Test.YthnchjgffocigaaDoorRows
import Derived.OpenShut
import Derived.ShutString
import Derived.ChangeOld
import Derived.Below
import Derived.SizedLaws
section
namespace Go.Proofs.YthnchjgffocigaaDoor.P
open Go.RowKit Go.Proofs.YthnchjgffocigaaDoorW.PrintWords Go.Proofs.YthnchjgffocigaaDoorW.PrintLast Go.Proofs.YthnchjgffocigaaDoorW.PrintMore
set_option linter.unusedVariables false
set_option linter.unusedSimpArgs false
set_option maxHeartbeats 8000000 in
set_option maxRecDepth 100000 in
theorem laws_FnExactMostApart.exit1 (k : Nat) (A0_0 : Option Addr) (c0_0 : Nat) (l0_0 : List (List Int)) (A1 : Option Addr) (c1 : Nat) (l1 : List S116) (z3 : Int) (w : World) (hr0_0 : Kd.C (Kd.slice 5 (Kd.int .u8)) w A0_0 l0_0.length l0_0) (hc0_0 : l0_0.length ≤ c0_0) (hr1 : Kd.C k116 w A1 l1.length l1) (hc1 : l1.length ≤ c1) (hE1 : laws_szMemory.f k l0_0 1048576 = some z3) (hz3_no : z3 < 0) :
    Calls Tryd.prog 4 #[.agg #[.slice A0_0 l0_0.length c0_0], .slice A1 l1.length c1] w fun e w' => e = .returned (.bool true) ∧ Below w.heap.size w w' := by
  have hu55 := Tryd.underlying55
  have HR0_0 := Aside0.mk hr0_0
  have HC0_0 := Aside0.mk hc0_0
  clear hr0_0 hc0_0
  have HR1 := Aside0.mk hr1
  have HC1 := Aside0.mk hc1
  clear hr1 hc1
  have E1 := Aside0.mk hE1
  clear hE1
  have d_z3 : decide (z3 < 0) = true := decide_eq_true hz3_no
  clear hz3_no
  have HB := Aside0.mk (Below.refl w.heap.size w)
  obtain ⟨n0, hn0⟩ : ∃ n_, n_ = w.heap.size := ⟨_, rfl⟩
  have HZ := Aside0.mk (Nat.le_of_eq hn0 : n0 ≤ w.heap.size)
  clear hn0
  go_enter Tryd.func4, Tryd.ntmps4
  go_wp2_with (first | ((with_reducible refine gate_dst (N := 2) rfl ?_); refine box_event ?hg (N := 2) ?hd (cs := #[.slice A0_0 l0_0.length c0_0]) (t := 55) ?hr ?_; (case hd => rfl); (case hg => rfl); (case hr => first | (go_simp; done) | (go_simp; rfl)); intro gb2 hg_ w3001 hbox hb; have mB_ := Aside0.mk (below_step (by (repeat (first | (with_reducible first | exact HB.out | apply below_alloc | apply pw_below_drewN | apply below_drew1) | exact HB.out))) hb); have mL_ := Aside0.mk (by (repeat (first | exact HZ.out | (with_reducible first | apply sz_alloc | apply sz_drewN | apply sz_drew | apply sz_set))) : n0 ≤ _); obtain ⟨n1, hn_⟩ : ∃ n_, n_ = w3001.heap.size := ⟨_, rfl⟩; have mN_ := Aside0.mk (by rw [hn_]; exact Nat.le_trans mL_.out hb.size : n0 ≤ n1); have mZ_ := Aside0.mk (Nat.le_of_eq hn_ : n1 ≤ w3001.heap.size); have xBK2_ := Aside0.mk (hbox); have xGE2_ := Aside0.mk (by rw [hg_]; exact below_size (by (repeat (first | (with_reducible first | exact HB.out | apply below_alloc | apply pw_below_drewN | apply below_drew1) | exact HB.out))) : w.heap.size ≤ gb2); have xHI2_ := Aside0.mk (⟨by rw [hg_]; exact mL_.out, by rw [hn_]; exact blk_lt hbox⟩ : n0 ≤ gb2 ∧ gb2 < n1); clear HB HZ; have HB := mB_; have HZ := mZ_; have HN1 := mN_; have BK2 := xBK2_; have GE2 := xGE2_; have HI2 := xHI2_; clear mB_ mN_ mZ_ mL_ xBK2_ xGE2_ xHI2_; (try clear hn_); clear hb hbox hg_; have hc2_0 := (blk_cell BK2.out 0).trans (show (#[.slice A0_0 l0_0.length c0_0] : Array Value)[0]? = some (.slice A0_0 l0_0.length c0_0) from rfl); have hf2_0 := blk_frozen BK2.out 0) | ((with_reducible refine gate_callee (f := 31) rfl ?_); refine goesL_ (some 19) rfl rfl Tryd.func31 (by kernel_rfl) rfl #[.agg #[.slice A0_0 l0_0.length c0_0], .int .i64 1048576] rfl (by (try simp only [List.map_toArray, List.map_cons, List.map_nil]); first | done | rfl) ?_; (with_reducible refine (laws_szMemory.calls k _ _ l0_0 1048576 z3 _ ?sr0 ?sc0 E1.out).mono ?_); (case sr0 => exact Kd.C_below HR0_0.out (by (repeat (first | (with_reducible first | exact HB.out | apply below_alloc | apply pw_below_drewN | apply below_drew1 | refine below_set ?_ GE2.out) | exact HB.out)))); (case sc0 => exact HC0_0.out); rintro e w1004 ⟨rfl, hb⟩; refine ⟨_, rfl, ?_⟩; have m0_ := Aside0.mk (blk_below (g := gb2) (o := .cells #[.slice A0_0 l0_0.length c0_0] 55 (0, 0)) (by ((with_reducible repeat (first | refine blk_drewN ?_ _ | refine blk_drew ?_ | refine blk_alloc ?_ _)); exact BK2.out)) hb); have mB_ := Aside0.mk (below_step (by (repeat (first | (with_reducible first | exact HB.out | apply below_alloc | apply pw_below_drewN | apply below_drew1 | refine below_set ?_ GE2.out) | exact HB.out))) hb); have mL_ := Aside0.mk (by (repeat (first | exact HZ.out | (with_reducible first | apply sz_alloc | apply sz_drewN | apply sz_drew | apply sz_set))) : n1 ≤ _); obtain ⟨n2, hn_⟩ : ∃ n_, n_ = w1004.heap.size := ⟨_, rfl⟩; have mN_ := Aside0.mk (by rw [hn_]; exact Nat.le_trans mL_.out hb.size : n1 ≤ n2); have mZ_ := Aside0.mk (Nat.le_of_eq hn_ : n2 ≤ w1004.heap.size); clear BK2 HB HZ; have BK2 := m0_; have HB := mB_; have HZ := mZ_; have HN2 := mN_; clear m0_ mB_ mN_ mZ_ mL_; (try clear hn_); clear hb))
  go_ret
  exact ⟨rfl, by (repeat (first | (with_reducible first | exact HB.out | apply below_alloc | apply pw_below_drewN | apply below_drew1 | refine below_set ?_ GE2.out) | exact HB.out))⟩
set_option maxHeartbeats 8000000 in
set_option maxRecDepth 100000 in
theorem laws_FnExactMostApart.exit2 (k : Nat) (A0_0 : Option Addr) (c0_0 : Nat) (l0_0 : List (List Int)) (A1 : Option Addr) (c1 : Nat) (l1 : List S116) (z3 : Int) (z5 : Int) (w : World) (hr0_0 : Kd.C (Kd.slice 5 (Kd.int .u8)) w A0_0 l0_0.length l0_0) (hc0_0 : l0_0.length ≤ c0_0) (hr1 : Kd.C k116 w A1 l1.length l1) (hc1 : l1.length ≤ c1) (hE1 : laws_szMemory.f k l0_0 1048576 = some z3) (hE2 : laws_szWindowS.f l1 z3 = some z5) (hz3_no : ¬ z3 < 0) (hz5_no : z5 < 0) :
    Calls Tryd.prog 4 #[.agg #[.slice A0_0 l0_0.length c0_0], .slice A1 l1.length c1] w fun e w' => e = .returned (.bool true) ∧ Below w.heap.size w w' := by
  have hu55 := Tryd.underlying55
  have HR0_0 := Aside0.mk hr0_0
  have HC0_0 := Aside0.mk hc0_0
  clear hr0_0 hc0_0
  have HR1 := Aside0.mk hr1
  have HC1 := Aside0.mk hc1
  clear hr1 hc1
  have E1 := Aside0.mk hE1
  clear hE1
  have E2 := Aside0.mk hE2
  clear hE2
  have d_z3 : decide (z3 < 0) = false := decide_eq_false hz3_no
  clear hz3_no
  have d_z5 : decide (z5 < 0) = true := decide_eq_true hz5_no
  clear hz5_no
  have HB := Aside0.mk (Below.refl w.heap.size w)
  obtain ⟨n0, hn0⟩ : ∃ n_, n_ = w.heap.size := ⟨_, rfl⟩
  have HZ := Aside0.mk (Nat.le_of_eq hn0 : n0 ≤ w.heap.size)
  clear hn0
  go_enter Tryd.func4, Tryd.ntmps4
  go_wp2_with (first | ((with_reducible refine gate_dst (N := 2) rfl ?_); refine box_event ?hg (N := 2) ?hd (cs := #[.slice A0_0 l0_0.length c0_0]) (t := 55) ?hr ?_; (case hd => rfl); (case hg => rfl); (case hr => first | (go_simp; done) | (go_simp; rfl)); intro gb2 hg_ w3001 hbox hb; have mB_ := Aside0.mk (below_step (by (repeat (first | (with_reducible first | exact HB.out | apply below_alloc | apply pw_below_drewN | apply below_drew1) | exact HB.out))) hb); have mL_ := Aside0.mk (by (repeat (first | exact HZ.out | (with_reducible first | apply sz_alloc | apply sz_drewN | apply sz_drew | apply sz_set))) : n0 ≤ _); obtain ⟨n1, hn_⟩ : ∃ n_, n_ = w3001.heap.size := ⟨_, rfl⟩; have mN_ := Aside0.mk (by rw [hn_]; exact Nat.le_trans mL_.out hb.size : n0 ≤ n1); have mZ_ := Aside0.mk (Nat.le_of_eq hn_ : n1 ≤ w3001.heap.size); have xBK2_ := Aside0.mk (hbox); have xGE2_ := Aside0.mk (by rw [hg_]; exact below_size (by (repeat (first | (with_reducible first | exact HB.out | apply below_alloc | apply pw_below_drewN | apply below_drew1) | exact HB.out))) : w.heap.size ≤ gb2); have xHI2_ := Aside0.mk (⟨by rw [hg_]; exact mL_.out, by rw [hn_]; exact blk_lt hbox⟩ : n0 ≤ gb2 ∧ gb2 < n1); clear HB HZ; have HB := mB_; have HZ := mZ_; have HN1 := mN_; have BK2 := xBK2_; have GE2 := xGE2_; have HI2 := xHI2_; clear mB_ mN_ mZ_ mL_ xBK2_ xGE2_ xHI2_; (try clear hn_); clear hb hbox hg_; have hc2_0 := (blk_cell BK2.out 0).trans (show (#[.slice A0_0 l0_0.length c0_0] : Array Value)[0]? = some (.slice A0_0 l0_0.length c0_0) from rfl); have hf2_0 := blk_frozen BK2.out 0) | ((with_reducible refine gate_callee (f := 31) rfl ?_); refine goesL_ (some 19) rfl rfl Tryd.func31 (by kernel_rfl) rfl #[.agg #[.slice A0_0 l0_0.length c0_0], .int .i64 1048576] rfl (by (try simp only [List.map_toArray, List.map_cons, List.map_nil]); first | done | rfl) ?_; (with_reducible refine (laws_szMemory.calls k _ _ l0_0 1048576 z3 _ ?sr0 ?sc0 E1.out).mono ?_); (case sr0 => exact Kd.C_below HR0_0.out (by (repeat (first | (with_reducible first | exact HB.out | apply below_alloc | apply pw_below_drewN | apply below_drew1 | refine below_set ?_ GE2.out) | exact HB.out)))); (case sc0 => exact HC0_0.out); rintro e w1004 ⟨rfl, hb⟩; refine ⟨_, rfl, ?_⟩; have m0_ := Aside0.mk (blk_below (g := gb2) (o := .cells #[.slice A0_0 l0_0.length c0_0] 55 (0, 0)) (by ((with_reducible repeat (first | refine blk_drewN ?_ _ | refine blk_drew ?_ | refine blk_alloc ?_ _)); exact BK2.out)) hb); have mB_ := Aside0.mk (below_step (by (repeat (first | (with_reducible first | exact HB.out | apply below_alloc | apply pw_below_drewN | apply below_drew1 | refine below_set ?_ GE2.out) | exact HB.out))) hb); have mL_ := Aside0.mk (by (repeat (first | exact HZ.out | (with_reducible first | apply sz_alloc | apply sz_drewN | apply sz_drew | apply sz_set))) : n1 ≤ _); obtain ⟨n2, hn_⟩ : ∃ n_, n_ = w1004.heap.size := ⟨_, rfl⟩; have mN_ := Aside0.mk (by rw [hn_]; exact Nat.le_trans mL_.out hb.size : n1 ≤ n2); have mZ_ := Aside0.mk (Nat.le_of_eq hn_ : n2 ≤ w1004.heap.size); clear BK2 HB HZ; have BK2 := m0_; have HB := mB_; have HZ := mZ_; have HN2 := mN_; clear m0_ mB_ mN_ mZ_ mL_; (try clear hn_); clear hb) | ((with_reducible refine gate_callee (f := 32) rfl ?_); refine goesL_ (some 24) rfl rfl Tryd.func32 (by kernel_rfl) rfl #[.slice A1 l1.length c1, .int .i64 z3] rfl (by (try simp only [List.map_toArray, List.map_cons, List.map_nil]); first | done | rfl) ?_; (with_reducible refine (laws_szWindowS.calls _ _ l1 z3 z5 _ ?sr0 ?sc0 E2.out).mono ?_); (case sr0 => exact Kd.C_below HR1.out (by (repeat (first | (with_reducible first | exact HB.out | apply below_alloc | apply pw_below_drewN | apply below_drew1 | refine below_set ?_ GE2.out) | exact HB.out)))); (case sc0 => exact HC1.out); rintro e w1007 ⟨rfl, hd_⟩; have hb := hd_.below; clear hd_; refine ⟨_, rfl, ?_⟩; have m0_ := Aside0.mk (blk_below (g := gb2) (o := .cells #[.slice A0_0 l0_0.length c0_0] 55 (0, 0)) (by ((with_reducible repeat (first | refine blk_drewN ?_ _ | refine blk_drew ?_ | refine blk_alloc ?_ _)); exact BK2.out)) hb); have mB_ := Aside0.mk (below_step (by (repeat (first | (with_reducible first | exact HB.out | apply below_alloc | apply pw_below_drewN | apply below_drew1 | refine below_set ?_ GE2.out) | exact HB.out))) hb); have mL_ := Aside0.mk (by (repeat (first | exact HZ.out | (with_reducible first | apply sz_alloc | apply sz_drewN | apply sz_drew | apply sz_set))) : n2 ≤ _); obtain ⟨n3, hn_⟩ : ∃ n_, n_ = w1007.heap.size := ⟨_, rfl⟩; have mN_ := Aside0.mk (by rw [hn_]; exact Nat.le_trans mL_.out hb.size : n2 ≤ n3); have mZ_ := Aside0.mk (Nat.le_of_eq hn_ : n3 ≤ w1007.heap.size); clear BK2 HB HZ; have BK2 := m0_; have HB := mB_; have HZ := mZ_; have HN3 := mN_; clear m0_ mB_ mN_ mZ_ mL_; (try clear hn_); clear hb; have hc7_0 := (blk_cell BK2.out 0).trans (show (#[.slice A0_0 l0_0.length c0_0] : Array Value)[0]? = some (.slice A0_0 l0_0.length c0_0) from rfl); have hf7_0 := blk_frozen BK2.out 0))
  go_ret
  exact ⟨rfl, by (repeat (first | (with_reducible first | exact HB.out | apply below_alloc | apply pw_below_drewN | apply below_drew1 | refine below_set ?_ GE2.out) | exact HB.out))⟩
set_option maxHeartbeats 8000000 in
set_option maxRecDepth 100000 in
theorem laws_FnExactMostApart.walk (k : Nat) (A0_0 : Option Addr) (c0_0 : Nat) (l0_0 : List (List Int)) (A1 : Option Addr) (c1 : Nat) (l1 : List S116) (z3 : Int) (z5 : Int) (t9 : List (List Int)) (t13 : List (S28)) (g16 : List Int) (ok17 : Bool) (s18 : List Int) (m44 : Int) (y45 : List (List Int)) (m47 : Int) (y48 : List (S28)) (m51 : Int) (y52 : List Int) (w : World) (hr0_0 : Kd.C (Kd.slice 5 (Kd.int .u8)) w A0_0 l0_0.length l0_0) (hc0_0 : l0_0.length ≤ c0_0) (hr1 : Kd.C k116 w A1 l1.length l1) (hc1 : l1.length ≤ c1) (hE1 : laws_szMemory.f k l0_0 1048576 = some z3) (hE2 : laws_szWindowS.f l1 z3 = some z5) (hE3 : laws_toMemory.f k l0_0 = some t9) (hE4 : laws_toWindowS.f k l1 = some t13) (hE5 : spec_MostApart.f k t9 t13 = some (s18, ok17)) (hE8 : impl_MostApart.f k t9 t13 = some (g16, ok17)) (hE9 : laws_eqIntS.f k g16 s18 = some true) (hE11 : laws_eqMemory.f k t9 t9 = some true) (hE13 : laws_eqWindowS.f k t13 t13 = some true) (hE14 : laws_markMemory.f k t9 1 = some (m44, y45)) (hE15 : laws_markWindowS.f k t13 m44 = some (m47, y48)) (hE17 : laws_markIntS.f k g16 1 = some (m51, y52)) (hE18 : laws_heldIntS.f k y52 1 = some m51) (hz3_no : ¬ z3 < 0) (hz5_no : ¬ z5 < 0) (hm44_no : ¬ m44 < 0) (hm47_no : ¬ m47 < 0) (hm51_no : ¬ m51 < 0) (HTD : Aside0 (TabD w)) :
    Calls Tryd.prog 4 #[.agg #[.slice A0_0 l0_0.length c0_0], .slice A1 l1.length c1] w fun e w' => e = .returned (.bool true) ∧ Below w.heap.size w w' := by
  have hu55 := Tryd.underlying55
  have HR0_0 := Aside0.mk hr0_0
  have HC0_0 := Aside0.mk hc0_0
  clear hr0_0 hc0_0
  have HR1 := Aside0.mk hr1
  have HC1 := Aside0.mk hc1
  clear hr1 hc1
  have E1 := Aside0.mk hE1
  clear hE1
  have E2 := Aside0.mk hE2
  clear hE2
  have E3 := Aside0.mk hE3
  clear hE3
  have E4 := Aside0.mk hE4
  clear hE4
  have E5 := Aside0.mk hE5
  clear hE5
  have E8 := Aside0.mk hE8
  clear hE8
  have E9 := Aside0.mk hE9
  clear hE9
  have E11 := Aside0.mk hE11
  clear hE11
  have E13 := Aside0.mk hE13
  clear hE13
  have E14 := Aside0.mk hE14
  clear hE14
  have E15 := Aside0.mk hE15
  clear hE15
  have E17 := Aside0.mk hE17
  clear hE17
  have E18 := Aside0.mk hE18
  clear hE18
  have d_z3 : decide (z3 < 0) = false := decide_eq_false hz3_no
  clear hz3_no
  have d_z5 : decide (z5 < 0) = false := decide_eq_false hz5_no
  clear hz5_no
  have d_m44 : decide (m44 < 0) = false := decide_eq_false hm44_no
  clear hm44_no
  have d_m47 : decide (m47 < 0) = false := decide_eq_false hm47_no
  clear hm47_no
  have d_m51 : decide (m51 < 0) = false := decide_eq_false hm51_no
  clear hm51_no
  have b_ok17 : (ok17 != ok17) = false := by cases ok17 <;> rfl
  have HB := Aside0.mk (Below.refl w.heap.size w)
  obtain ⟨n0, hn0⟩ : ∃ n_, n_ = w.heap.size := ⟨_, rfl⟩
  have HZ := Aside0.mk (Nat.le_of_eq hn0 : n0 ≤ w.heap.size)
  clear hn0
  go_enter Tryd.func4, Tryd.ntmps4
  go_upto_region 14 with (first | ((with_reducible refine gate_dst (N := 2) rfl ?_); refine box_event ?hg (N := 2) ?hd (cs := #[.slice A0_0 l0_0.length c0_0]) (t := 55) ?hr ?_; (case hd => rfl); (case hg => rfl); (case hr => first | (go_simp; done) | (go_simp; rfl)); intro gb2 hg_ w3001 hbox hb; have mB_ := Aside0.mk (below_step (by (repeat (first | (with_reducible first | exact HB.out | apply below_alloc | apply pw_below_drewN | apply below_drew1) | exact HB.out))) hb); have mL_ := Aside0.mk (by (repeat (first | exact HZ.out | (with_reducible first | apply sz_alloc | apply sz_drewN | apply sz_drew | apply sz_set))) : n0 ≤ _); obtain ⟨n1, hn_⟩ : ∃ n_, n_ = w3001.heap.size := ⟨_, rfl⟩; have mN_ := Aside0.mk (by rw [hn_]; exact Nat.le_trans mL_.out hb.size : n0 ≤ n1); have mZ_ := Aside0.mk (Nat.le_of_eq hn_ : n1 ≤ w3001.heap.size); have xBK2_ := Aside0.mk (hbox); have xGE2_ := Aside0.mk (by rw [hg_]; exact below_size (by (repeat (first | (with_reducible first | exact HB.out | apply below_alloc | apply pw_below_drewN | apply below_drew1) | exact HB.out))) : w.heap.size ≤ gb2); have xHI2_ := Aside0.mk (⟨by rw [hg_]; exact mL_.out, by rw [hn_]; exact blk_lt hbox⟩ : n0 ≤ gb2 ∧ gb2 < n1); clear HB HZ; have HB := mB_; have HZ := mZ_; have HN1 := mN_; have BK2 := xBK2_; have GE2 := xGE2_; have HI2 := xHI2_; clear mB_ mN_ mZ_ mL_ xBK2_ xGE2_ xHI2_; (try clear hn_); clear hb hbox hg_; have hc2_0 := (blk_cell BK2.out 0).trans (show (#[.slice A0_0 l0_0.length c0_0] : Array Value)[0]? = some (.slice A0_0 l0_0.length c0_0) from rfl); have hf2_0 := blk_frozen BK2.out 0) | ((with_reducible refine gate_callee (f := 31) rfl ?_); refine goesL_ (some 19) rfl rfl Tryd.func31 (by kernel_rfl) rfl #[.agg #[.slice A0_0 l0_0.length c0_0], .int .i64 1048576] rfl (by (try simp only [List.map_toArray, List.map_cons, List.map_nil]); first | done | rfl) ?_; (with_reducible refine (laws_szMemory.calls k _ _ l0_0 1048576 z3 _ ?sr0 ?sc0 E1.out).mono ?_); (case sr0 => exact Kd.C_below HR0_0.out (by (repeat (first | (with_reducible first | exact HB.out | apply below_alloc | apply pw_below_drewN | apply below_drew1 | refine below_set ?_ GE2.out) | exact HB.out)))); (case sc0 => exact HC0_0.out); rintro e w1004 ⟨rfl, hb⟩; refine ⟨_, rfl, ?_⟩; have m0_ := Aside0.mk (blk_below (g := gb2) (o := .cells #[.slice A0_0 l0_0.length c0_0] 55 (0, 0)) (by ((with_reducible repeat (first | refine blk_drewN ?_ _ | refine blk_drew ?_ | refine blk_alloc ?_ _)); exact BK2.out)) hb); have mB_ := Aside0.mk (below_step (by (repeat (first | (with_reducible first | exact HB.out | apply below_alloc | apply pw_below_drewN | apply below_drew1 | refine below_set ?_ GE2.out) | exact HB.out))) hb); have mL_ := Aside0.mk (by (repeat (first | exact HZ.out | (with_reducible first | apply sz_alloc | apply sz_drewN | apply sz_drew | apply sz_set))) : n1 ≤ _); obtain ⟨n2, hn_⟩ : ∃ n_, n_ = w1004.heap.size := ⟨_, rfl⟩; have mN_ := Aside0.mk (by rw [hn_]; exact Nat.le_trans mL_.out hb.size : n1 ≤ n2); have mZ_ := Aside0.mk (Nat.le_of_eq hn_ : n2 ≤ w1004.heap.size); clear BK2 HB HZ; have BK2 := m0_; have HB := mB_; have HZ := mZ_; have HN2 := mN_; clear m0_ mB_ mN_ mZ_ mL_; (try clear hn_); clear hb) | ((with_reducible refine gate_callee (f := 32) rfl ?_); refine goesL_ (some 24) rfl rfl Tryd.func32 (by kernel_rfl) rfl #[.slice A1 l1.length c1, .int .i64 z3] rfl (by (try simp only [List.map_toArray, List.map_cons, List.map_nil]); first | done | rfl) ?_; (with_reducible refine (laws_szWindowS.calls _ _ l1 z3 z5 _ ?sr0 ?sc0 E2.out).mono ?_); (case sr0 => exact Kd.C_below HR1.out (by (repeat (first | (with_reducible first | exact HB.out | apply below_alloc | apply pw_below_drewN | apply below_drew1 | refine below_set ?_ GE2.out) | exact HB.out)))); (case sc0 => exact HC1.out); rintro e w1007 ⟨rfl, hd_⟩; have hb := hd_.below; clear hd_; refine ⟨_, rfl, ?_⟩; have m0_ := Aside0.mk (blk_below (g := gb2) (o := .cells #[.slice A0_0 l0_0.length c0_0] 55 (0, 0)) (by ((with_reducible repeat (first | refine blk_drewN ?_ _ | refine blk_drew ?_ | refine blk_alloc ?_ _)); exact BK2.out)) hb); have mB_ := Aside0.mk (below_step (by (repeat (first | (with_reducible first | exact HB.out | apply below_alloc | apply pw_below_drewN | apply below_drew1 | refine below_set ?_ GE2.out) | exact HB.out))) hb); have mL_ := Aside0.mk (by (repeat (first | exact HZ.out | (with_reducible first | apply sz_alloc | apply sz_drewN | apply sz_drew | apply sz_set))) : n2 ≤ _); obtain ⟨n3, hn_⟩ : ∃ n_, n_ = w1007.heap.size := ⟨_, rfl⟩; have mN_ := Aside0.mk (by rw [hn_]; exact Nat.le_trans mL_.out hb.size : n2 ≤ n3); have mZ_ := Aside0.mk (Nat.le_of_eq hn_ : n3 ≤ w1007.heap.size); clear BK2 HB HZ; have BK2 := m0_; have HB := mB_; have HZ := mZ_; have HN3 := mN_; clear m0_ mB_ mN_ mZ_ mL_; (try clear hn_); clear hb; have hc7_0 := (blk_cell BK2.out 0).trans (show (#[.slice A0_0 l0_0.length c0_0] : Array Value)[0]? = some (.slice A0_0 l0_0.length c0_0) from rfl); have hf7_0 := blk_frozen BK2.out 0) | ((with_reducible refine gate_callee (f := 33) rfl ?_); refine goesL_ (some 29) rfl rfl Tryd.func33 (by kernel_rfl) rfl #[.agg #[.slice A0_0 l0_0.length c0_0]] rfl (by (try simp only [List.map_toArray, List.map_cons, List.map_nil]); first | done | rfl) ?_; (with_reducible refine (laws_toMemory.calls k _ _ l0_0 t9 _ ?sr0 ?sc0 E3.out).mono ?_); (case sr0 => exact Kd.C_below HR0_0.out (by (repeat (first | (with_reducible first | exact HB.out | apply below_alloc | apply pw_below_drewN | apply below_drew1 | refine below_set ?_ GE2.out) | exact HB.out)))); (case sc0 => exact HC0_0.out); rintro e w1012 ⟨v3_0, rfl, ho0_, hb⟩; refine ⟨_, rfl, ?_⟩; have m0_ := Aside0.mk (blk_below (g := gb2) (o := .cells #[.slice A0_0 l0_0.length c0_0] 55 (0, 0)) (by ((with_reducible repeat (first | refine blk_drewN ?_ _ | refine blk_drew ?_ | refine blk_alloc ?_ _)); exact BK2.out)) hb); have mB_ := Aside0.mk (below_step (by (repeat (first | (with_reducible first | exact HB.out | apply below_alloc | apply pw_below_drewN | apply below_drew1 | refine below_set ?_ GE2.out) | exact HB.out))) hb); have mL_ := Aside0.mk (by (repeat (first | exact HZ.out | (with_reducible first | apply sz_alloc | apply sz_drewN | apply sz_drew | apply sz_set))) : n3 ≤ _); obtain ⟨n4, hn_⟩ : ∃ n_, n_ = w1012.heap.size := ⟨_, rfl⟩; have mN_ := Aside0.mk (by rw [hn_]; exact Nat.le_trans mL_.out hb.size : n3 ≤ n4); have mZ_ := Aside0.mk (Nat.le_of_eq hn_ : n4 ≤ w1012.heap.size); have xHO11_ := Aside0.mk (show Kd.S (Kd.slice 5 (Kd.int .u8)) 22 w1012 w.heap.size (fun k_ => n3 ≤ k_ ∧ k_ < n4) _ t9 from Kd.S_mono (Kd.S_lower (Kd.S_bound ho0_) (below_size (by (repeat (first | (with_reducible first | exact HB.out | apply below_alloc | apply pw_below_drewN | apply below_drew1 | refine below_set ?_ GE2.out) | exact HB.out))))) (fun k_ hk_ => ⟨Nat.le_trans mL_.out hk_.2.1, by rw [hn_]; exact hk_.2.2.1⟩)); clear BK2 HB HZ; have BK2 := m0_; have HB := mB_; have HZ := mZ_; have HN4 := mN_; have HO11 := xHO11_; clear m0_ mB_ mN_ mZ_ mL_ xHO11_; (try clear hn_); clear hb ho0_; obtain ⟨Ao11, co11, eo_⟩ := Kd.S_slice HO11.out; subst eo_) | ((with_reducible refine gate_callee (f := 34) rfl ?_); refine goesL_ (some 31) rfl rfl Tryd.func34 (by kernel_rfl) rfl #[.slice A1 l1.length c1] rfl (by (try simp only [List.map_toArray, List.map_cons, List.map_nil]); first | done | rfl) ?_; (with_reducible refine (laws_toWindowS.calls k _ _ l1 t13 _ ?sr0 ?sc0 E4.out).mono ?_); (case sr0 => exact Kd.C_below HR1.out (by (repeat (first | (with_reducible first | exact HB.out | apply below_alloc | apply pw_below_drewN | apply below_drew1 | refine below_set ?_ GE2.out) | exact HB.out)))); (case sc0 => exact HC1.out); rintro e w1017 ⟨v4_0, rfl, ho0_, hb⟩; refine ⟨_, rfl, ?_⟩; have m0_ := Aside0.mk (blk_below (g := gb2) (o := .cells #[.slice A0_0 l0_0.length c0_0] 55 (0, 0)) (by ((with_reducible repeat (first | refine blk_drewN ?_ _ | refine blk_drew ?_ | refine blk_alloc ?_ _)); exact BK2.out)) hb); have m1_ := Aside0.mk (Kd.S_below (by ((with_reducible repeat (first | apply Kd.S_alloc | apply Kd.S_drewN | apply Kd.S_drew)); exact HO11.out)) hb); have mB_ := Aside0.mk (below_step (by (repeat (first | (with_reducible first | exact HB.out | apply below_alloc | apply pw_below_drewN | apply below_drew1 | refine below_set ?_ GE2.out) | exact HB.out))) hb); have mL_ := Aside0.mk (by (repeat (first | exact HZ.out | (with_reducible first | apply sz_alloc | apply sz_drewN | apply sz_drew | apply sz_set))) : n4 ≤ _); obtain ⟨n5, hn_⟩ : ∃ n_, n_ = w1017.heap.size := ⟨_, rfl⟩; have mN_ := Aside0.mk (by rw [hn_]; exact Nat.le_trans mL_.out hb.size : n4 ≤ n5); have mZ_ := Aside0.mk (Nat.le_of_eq hn_ : n5 ≤ w1017.heap.size); have xHO15_ := Aside0.mk (show Kd.R k28 28 w1017 w.heap.size (fun k_ => n4 ≤ k_ ∧ k_ < n5) _ t13 from Kd.R_mono (Kd.R_lower (Kd.R_bound ho0_) (below_size (by (repeat (first | (with_reducible first | exact HB.out | apply below_alloc | apply pw_below_drewN | apply below_drew1 | refine below_set ?_ GE2.out) | exact HB.out))))) (fun k_ hk_ => ⟨Nat.le_trans mL_.out hk_.2.1, by rw [hn_]; exact hk_.2.2.1⟩)); clear BK2 HO11 HB HZ; have BK2 := m0_; have HO11 := m1_; have HB := mB_; have HZ := mZ_; have HN5 := mN_; have HO15 := xHO15_; clear m0_ m1_ mB_ mN_ mZ_ mL_ xHO15_; (try clear hn_); clear hb ho0_; obtain ⟨Ao15, co15, eo_⟩ := Kd.R_slice HO15.out; subst eo_) | ((with_reducible refine gate_callee (f := 23) rfl ?_); refine goesL_ (some 32) rfl rfl Tryd.func23 (by kernel_rfl) rfl #[.agg #[.slice Ao11 t9.length co11], .slice Ao15 t13.length co15] rfl (by (try simp only [List.map_toArray, List.map_cons, List.map_nil]); first | done | rfl) ?_; (with_reducible refine (spec_MostApart.calls k _ _ t9 _ _ t13 s18 ok17 _ ?sr0 ?sc0 ?sr1 ?sc1 E5.out).mono ?_); (case sr0 => repeat (first | exact (Kd.S_reads' HO11.out).2.2 | (with_reducible refine Kd.C_alloc ?_ _) | (with_reducible refine Kd.C_drewN ?_ _) | (with_reducible refine Kd.C_drew ?_))); (case sc0 => first | exact (Kd.S_reads' HO11.out).2.1 | exact Nat.le_trans (Nat.le_of_eq (Kd.S_reads' HO11.out).1.symm) (Kd.S_reads' HO11.out).2.1); (case sr1 => repeat (first | exact (Kd.R_reads' HO15.out).2.2 | (with_reducible refine Kd.C_alloc ?_ _) | (with_reducible refine Kd.C_drewN ?_ _) | (with_reducible refine Kd.C_drew ?_))); (case sc1 => first | exact (Kd.R_reads' HO15.out).2.1 | exact Nat.le_trans (Nat.le_of_eq (Kd.R_reads' HO15.out).1.symm) (Kd.R_reads' HO15.out).2.1); rintro e w1023 ⟨v5_0, rfl, ho0_, hb⟩; refine ⟨_, rfl, ?_⟩; have m0_ := Aside0.mk (blk_below (g := gb2) (o := .cells #[.slice A0_0 l0_0.length c0_0] 55 (0, 0)) (by ((with_reducible repeat (first | refine blk_drewN ?_ _ | refine blk_drew ?_ | refine blk_alloc ?_ _)); exact BK2.out)) hb); have m1_ := Aside0.mk (Kd.S_below (by ((with_reducible repeat (first | apply Kd.S_alloc | apply Kd.S_drewN | apply Kd.S_drew)); exact HO11.out)) hb); have m2_ := Aside0.mk (Kd.R_below (by ((with_reducible repeat (first | apply Kd.R_alloc | apply Kd.R_drewN | apply Kd.R_drew)); exact HO15.out)) hb); have mB_ := Aside0.mk (below_step (by (repeat (first | (with_reducible first | exact HB.out | apply below_alloc | apply pw_below_drewN | apply below_drew1 | refine below_set ?_ GE2.out) | exact HB.out))) hb); have mL_ := Aside0.mk (by (repeat (first | exact HZ.out | (with_reducible first | apply sz_alloc | apply sz_drewN | apply sz_drew | apply sz_set))) : n5 ≤ _); obtain ⟨n6, hn_⟩ : ∃ n_, n_ = w1023.heap.size := ⟨_, rfl⟩; have mN_ := Aside0.mk (by rw [hn_]; exact Nat.le_trans mL_.out hb.size : n5 ≤ n6); have mZ_ := Aside0.mk (Nat.le_of_eq hn_ : n6 ≤ w1023.heap.size); have xHO20_ := Aside0.mk (show Kd.V (Kd.int .i64) 3 w1023 w.heap.size (fun k_ => n5 ≤ k_ ∧ k_ < n6) _ s18 from Kd.V_mono (Kd.V_bound ho0_) (fun k_ hk_ => ⟨Nat.le_trans mL_.out hk_.1, by rw [hn_]; exact hk_.2⟩)); clear BK2 HO11 HO15 HB HZ; have BK2 := m0_; have HO11 := m1_; have HO15 := m2_; have HB := mB_; have HZ := mZ_; have HN6 := mN_; have HO20 := xHO20_; clear m0_ m1_ m2_ mB_ mN_ mZ_ mL_ xHO20_; (try clear hn_); clear hb ho0_; obtain ⟨Ao20, co20, eo_⟩ := Kd.V_slice HO20.out; subst eo_; have hc21_0 := (blk_cell BK2.out 0).trans (show (#[.slice A0_0 l0_0.length c0_0] : Array Value)[0]? = some (.slice A0_0 l0_0.length c0_0) from rfl); have hf21_0 := blk_frozen BK2.out 0) | ((with_reducible refine gate_callee (f := 33) rfl ?_); refine goesL_ (some 36) rfl rfl Tryd.func33 (by kernel_rfl) rfl #[.agg #[.slice A0_0 l0_0.length c0_0]] rfl (by (try simp only [List.map_toArray, List.map_cons, List.map_nil]); first | done | rfl) ?_; (with_reducible refine (laws_toMemory.calls k _ _ l0_0 t9 _ ?sr0 ?sc0 E3.out).mono ?_); (case sr0 => exact Kd.C_below HR0_0.out (by (repeat (first | (with_reducible first | exact HB.out | apply below_alloc | apply pw_below_drewN | apply below_drew1 | refine below_set ?_ GE2.out) | exact HB.out)))); (case sc0 => exact HC0_0.out); rintro e w1028 ⟨v6_0, rfl, ho0_, hb⟩; refine ⟨_, rfl, ?_⟩; have m0_ := Aside0.mk (blk_below (g := gb2) (o := .cells #[.slice A0_0 l0_0.length c0_0] 55 (0, 0)) (by ((with_reducible repeat (first | refine blk_drewN ?_ _ | refine blk_drew ?_ | refine blk_alloc ?_ _)); exact BK2.out)) hb); have m1_ := Aside0.mk (Kd.S_below (by ((with_reducible repeat (first | apply Kd.S_alloc | apply Kd.S_drewN | apply Kd.S_drew)); exact HO11.out)) hb); have m2_ := Aside0.mk (Kd.R_below (by ((with_reducible repeat (first | apply Kd.R_alloc | apply Kd.R_drewN | apply Kd.R_drew)); exact HO15.out)) hb); have m3_ := Aside0.mk (Kd.V_below (by ((with_reducible repeat (first | apply Kd.V_alloc | apply Kd.V_drewN | apply Kd.V_drew)); exact HO20.out)) hb); have mB_ := Aside0.mk (below_step (by (repeat (first | (with_reducible first | exact HB.out | apply below_alloc | apply pw_below_drewN | apply below_drew1 | refine below_set ?_ GE2.out) | exact HB.out))) hb); have mL_ := Aside0.mk (by (repeat (first | exact HZ.out | (with_reducible first | apply sz_alloc | apply sz_drewN | apply sz_drew | apply sz_set))) : n6 ≤ _); obtain ⟨n7, hn_⟩ : ∃ n_, n_ = w1028.heap.size := ⟨_, rfl⟩; have mN_ := Aside0.mk (by rw [hn_]; exact Nat.le_trans mL_.out hb.size : n6 ≤ n7); have mZ_ := Aside0.mk (Nat.le_of_eq hn_ : n7 ≤ w1028.heap.size); have xHO24_ := Aside0.mk (show Kd.S (Kd.slice 5 (Kd.int .u8)) 22 w1028 w.heap.size (fun k_ => n6 ≤ k_ ∧ k_ < n7) _ t9 from Kd.S_mono (Kd.S_lower (Kd.S_bound ho0_) (below_size (by (repeat (first | (with_reducible first | exact HB.out | apply below_alloc | apply pw_below_drewN | apply below_drew1 | refine below_set ?_ GE2.out) | exact HB.out))))) (fun k_ hk_ => ⟨Nat.le_trans mL_.out hk_.2.1, by rw [hn_]; exact hk_.2.2.1⟩)); clear BK2 HO11 HO15 HO20 HB HZ; have BK2 := m0_; have HO11 := m1_; have HO15 := m2_; have HO20 := m3_; have HB := mB_; have HZ := mZ_; have HN7 := mN_; have HO24 := xHO24_; clear m0_ m1_ m2_ m3_ mB_ mN_ mZ_ mL_ xHO24_; (try clear hn_); clear hb ho0_; obtain ⟨Ao24, co24, eo_⟩ := Kd.S_slice HO24.out; subst eo_) | ((with_reducible refine gate_dst (N := 8) rfl ?_); refine box_event ?hg (N := 8) ?hd (cs := #[.slice none 0 0]) (t := 26) ?hr ?_; (case hd => rfl); (case hg => rfl); (case hr => first | (go_simp; done) | (go_simp; rfl)); intro gb8 hg_ w3025 hbox hb; have m0_ := Aside0.mk (blk_below (g := gb2) (o := .cells #[.slice A0_0 l0_0.length c0_0] 55 (0, 0)) (by ((with_reducible repeat (first | refine blk_drewN ?_ _ | refine blk_drew ?_ | refine blk_alloc ?_ _)); exact BK2.out)) hb); have m1_ := Aside0.mk (Kd.S_below (by ((with_reducible repeat (first | apply Kd.S_alloc | apply Kd.S_drewN | apply Kd.S_drew)); exact HO11.out)) hb); have m2_ := Aside0.mk (Kd.R_below (by ((with_reducible repeat (first | apply Kd.R_alloc | apply Kd.R_drewN | apply Kd.R_drew)); exact HO15.out)) hb); have m3_ := Aside0.mk (Kd.V_below (by ((with_reducible repeat (first | apply Kd.V_alloc | apply Kd.V_drewN | apply Kd.V_drew)); exact HO20.out)) hb); have m4_ := Aside0.mk (Kd.S_below (by ((with_reducible repeat (first | apply Kd.S_alloc | apply Kd.S_drewN | apply Kd.S_drew)); exact HO24.out)) hb); have mB_ := Aside0.mk (below_step (by (repeat (first | (with_reducible first | exact HB.out | apply below_alloc | apply pw_below_drewN | apply below_drew1 | refine below_set ?_ GE2.out) | exact HB.out))) hb); have mL_ := Aside0.mk (by (repeat (first | exact HZ.out | (with_reducible first | apply sz_alloc | apply sz_drewN | apply sz_drew | apply sz_set))) : n7 ≤ _); obtain ⟨n8, hn_⟩ : ∃ n_, n_ = w3025.heap.size := ⟨_, rfl⟩; have mN_ := Aside0.mk (by rw [hn_]; exact Nat.le_trans mL_.out hb.size : n7 ≤ n8); have mZ_ := Aside0.mk (Nat.le_of_eq hn_ : n8 ≤ w3025.heap.size); have xBK8_ := Aside0.mk (hbox); have xGE8_ := Aside0.mk (by rw [hg_]; exact below_size (by (repeat (first | (with_reducible first | exact HB.out | apply below_alloc | apply pw_below_drewN | apply below_drew1 | refine below_set ?_ GE2.out) | exact HB.out))) : w.heap.size ≤ gb8); have xHI8_ := Aside0.mk (⟨by rw [hg_]; exact mL_.out, by rw [hn_]; exact blk_lt hbox⟩ : n7 ≤ gb8 ∧ gb8 < n8); clear BK2 HO11 HO15 HO20 HO24 HB HZ; have BK2 := m0_; have HO11 := m1_; have HO15 := m2_; have HO20 := m3_; have HO24 := m4_; have HB := mB_; have HZ := mZ_; have HN8 := mN_; have BK8 := xBK8_; have GE8 := xGE8_; have HI8 := xHI8_; clear m0_ m1_ m2_ m3_ m4_ mB_ mN_ mZ_ mL_ xBK8_ xGE8_ xHI8_; (try clear hn_); clear hb hbox hg_; have hc26_0 := (blk_cell BK8.out 0).trans (show (#[.slice none 0 0] : Array Value)[0]? = some (.slice none 0 0) from rfl); have hf26_0 := blk_frozen BK8.out 0) | ((with_reducible refine gate_callee (f := 34) rfl ?_); refine goesL_ (some 38) rfl rfl Tryd.func34 (by kernel_rfl) rfl #[.slice A1 l1.length c1] rfl (by (try simp only [List.map_toArray, List.map_cons, List.map_nil]); first | done | rfl) ?_; (with_reducible refine (laws_toWindowS.calls k _ _ l1 t13 _ ?sr0 ?sc0 E4.out).mono ?_); (case sr0 => exact Kd.C_below HR1.out (by (repeat (first | (with_reducible first | exact HB.out | apply below_alloc | apply pw_below_drewN | apply below_drew1 | refine below_set ?_ GE2.out | refine below_set ?_ GE8.out) | exact HB.out)))); (case sc0 => exact HC1.out); rintro e w1034 ⟨v7_0, rfl, ho0_, hb⟩; refine ⟨_, rfl, ?_⟩; have m0_ := Aside0.mk (blk_below (g := gb2) (o := .cells #[.slice A0_0 l0_0.length c0_0] 55 (0, 0)) (by ((with_reducible repeat (first | refine blk_drewN ?_ _ | refine blk_drew ?_ | refine blk_alloc ?_ _)); refine blk_far ?_ (by show gb2 ≠ gb8; have h1_ := HI2.out; have h2_ := HI8.out; have q1_ := HN1.out; have q2_ := HN2.out; have q3_ := HN3.out; have q4_ := HN4.out; have q5_ := HN5.out; have q6_ := HN6.out; have q7_ := HN7.out; have q8_ := HN8.out; omega) _; (with_reducible repeat (first | refine blk_drewN ?_ _ | refine blk_drew ?_ | refine blk_alloc ?_ _)); exact BK2.out)) hb); have m1_ := Aside0.mk (blk_below (g := gb8) (o := .cells #[.slice Ao24 t9.length co24] 26 (0, 0)) (by ((with_reducible repeat (first | refine blk_drewN ?_ _ | refine blk_drew ?_ | refine blk_alloc ?_ _)); refine blk_put (cs := #[.slice none 0 0]) ?_ 0 _ rfl; (with_reducible repeat (first | refine blk_drewN ?_ _ | refine blk_drew ?_ | refine blk_alloc ?_ _)); exact BK8.out)) hb); have m2_ := Aside0.mk (Kd.S_below (by ((with_reducible repeat (first | apply Kd.S_alloc | apply Kd.S_drewN | apply Kd.S_drew)); exact Kd.S_far (p := ⟨gb8, 0, none⟩) HO11.out (fun k_ hk_ => by show k_ ≠ gb8; have h2_ := HI8.out; have h3_ : n3 ≤ k_ ∧ k_ < n4 := hk_; clear hk_; have q1_ := HN1.out; have q2_ := HN2.out; have q3_ := HN3.out; have q4_ := HN4.out; have q5_ := HN5.out; have q6_ := HN6.out; have q7_ := HN7.out; have q8_ := HN8.out; omega) _)) hb); have m3_ := Aside0.mk (Kd.R_below (by ((with_reducible repeat (first | apply Kd.R_alloc | apply Kd.R_drewN | apply Kd.R_drew)); exact Kd.R_far (p := ⟨gb8, 0, none⟩) HO15.out (fun k_ hk_ => by show k_ ≠ gb8; have h2_ := HI8.out; have h3_ : n4 ≤ k_ ∧ k_ < n5 := hk_; clear hk_; have q1_ := HN1.out; have q2_ := HN2.out; have q3_ := HN3.out; have q4_ := HN4.out; have q5_ := HN5.out; have q6_ := HN6.out; have q7_ := HN7.out; have q8_ := HN8.out; omega) _)) hb); have m4_ := Aside0.mk (Kd.V_below (by ((with_reducible repeat (first | apply Kd.V_alloc | apply Kd.V_drewN | apply Kd.V_drew)); exact Kd.V_far (p := ⟨gb8, 0, none⟩) HO20.out (fun k_ hk_ => by show k_ ≠ gb8; have h2_ := HI8.out; have h3_ : n5 ≤ k_ ∧ k_ < n6 := hk_; clear hk_; have q1_ := HN1.out; have q2_ := HN2.out; have q3_ := HN3.out; have q4_ := HN4.out; have q5_ := HN5.out; have q6_ := HN6.out; have q7_ := HN7.out; have q8_ := HN8.out; omega) _)) hb); have m5_ := Aside0.mk (Kd.S_below (by ((with_reducible repeat (first | apply Kd.S_alloc | apply Kd.S_drewN | apply Kd.S_drew)); exact Kd.S_far (p := ⟨gb8, 0, none⟩) HO24.out (fun k_ hk_ => by show k_ ≠ gb8; have h2_ := HI8.out; have h3_ : n6 ≤ k_ ∧ k_ < n7 := hk_; clear hk_; have q1_ := HN1.out; have q2_ := HN2.out; have q3_ := HN3.out; have q4_ := HN4.out; have q5_ := HN5.out; have q6_ := HN6.out; have q7_ := HN7.out; have q8_ := HN8.out; omega) _)) hb); have mB_ := Aside0.mk (below_step (by (repeat (first | (with_reducible first | exact HB.out | apply below_alloc | apply pw_below_drewN | apply below_drew1 | refine below_set ?_ GE2.out | refine below_set ?_ GE8.out) | exact HB.out))) hb); have mL_ := Aside0.mk (sz_set (p := ⟨gb8, 0, none⟩) (v := .slice Ao24 t9.length co24) HZ.out); obtain ⟨n9, hn_⟩ : ∃ n_, n_ = w1034.heap.size := ⟨_, rfl⟩; have mN_ := Aside0.mk (by rw [hn_]; exact Nat.le_trans mL_.out hb.size : n8 ≤ n9); have mZ_ := Aside0.mk (Nat.le_of_eq hn_ : n9 ≤ w1034.heap.size); have xHO29_ := Aside0.mk (show Kd.R k28 28 w1034 w.heap.size (fun k_ => n8 ≤ k_ ∧ k_ < n9) _ t13 from Kd.R_mono (Kd.R_lower (Kd.R_bound ho0_) (below_size (by (repeat (first | (with_reducible first | exact HB.out | apply below_alloc | apply pw_below_drewN | apply below_drew1 | refine below_set ?_ GE2.out | refine below_set ?_ GE8.out) | exact HB.out))))) (fun k_ hk_ => ⟨Nat.le_trans mL_.out hk_.2.1, by rw [hn_]; exact hk_.2.2.1⟩)); clear BK2 BK8 HO11 HO15 HO20 HO24 HB HZ; have BK2 := m0_; have BK8 := m1_; have HO11 := m2_; have HO15 := m3_; have HO20 := m4_; have HO24 := m5_; have HB := mB_; have HZ := mZ_; have HN9 := mN_; have HO29 := xHO29_; clear m0_ m1_ m2_ m3_ m4_ m5_ mB_ mN_ mZ_ mL_ xHO29_; (try clear hn_); clear hb ho0_; obtain ⟨Ao29, co29, eo_⟩ := Kd.R_slice HO29.out; subst eo_; have hc30_0 := (blk_cell BK8.out 0).trans (show (#[.slice Ao24 t9.length co24] : Array Value)[0]? = some (.slice Ao24 t9.length co24) from rfl); have hf30_0 := blk_frozen BK8.out 0) | ((with_reducible refine gate_callee (f := 22) rfl ?_); refine goesL_ (some 42) rfl rfl Tryd.func22 (by kernel_rfl) rfl #[.agg #[.slice Ao24 t9.length co24], .slice Ao29 t13.length co29] rfl (by (try simp only [List.map_toArray, List.map_cons, List.map_nil]); first | done | rfl) ?_; (with_reducible refine (impl_MostApart.calls k _ _ t9 _ _ t13 g16 ok17 _ ?sr0 ?sc0 ?sr1 ?sc1 E8.out).mono ?_); (case sr0 => repeat (first | exact (Kd.S_reads' HO24.out).2.2 | (with_reducible refine Kd.C_alloc ?_ _) | (with_reducible refine Kd.C_drewN ?_ _) | (with_reducible refine Kd.C_drew ?_))); (case sc0 => first | exact (Kd.S_reads' HO24.out).2.1 | exact Nat.le_trans (Nat.le_of_eq (Kd.S_reads' HO24.out).1.symm) (Kd.S_reads' HO24.out).2.1); (case sr1 => repeat (first | exact (Kd.R_reads' HO29.out).2.2 | (with_reducible refine Kd.C_alloc ?_ _) | (with_reducible refine Kd.C_drewN ?_ _) | (with_reducible refine Kd.C_drew ?_))); (case sc1 => first | exact (Kd.R_reads' HO29.out).2.1 | exact Nat.le_trans (Nat.le_of_eq (Kd.R_reads' HO29.out).1.symm) (Kd.R_reads' HO29.out).2.1); rintro e w1038 ⟨v8_0, rfl, ho0_, hb⟩; refine ⟨_, rfl, ?_⟩; have m0_ := Aside0.mk (blk_below (g := gb2) (o := .cells #[.slice A0_0 l0_0.length c0_0] 55 (0, 0)) (by ((with_reducible repeat (first | refine blk_drewN ?_ _ | refine blk_drew ?_ | refine blk_alloc ?_ _)); exact BK2.out)) hb); have m1_ := Aside0.mk (blk_below (g := gb8) (o := .cells #[.slice Ao24 t9.length co24] 26 (0, 0)) (by ((with_reducible repeat (first | refine blk_drewN ?_ _ | refine blk_drew ?_ | refine blk_alloc ?_ _)); exact BK8.out)) hb); have m2_ := Aside0.mk (Kd.S_below (by ((with_reducible repeat (first | apply Kd.S_alloc | apply Kd.S_drewN | apply Kd.S_drew)); exact HO11.out)) hb); have m3_ := Aside0.mk (Kd.R_below (by ((with_reducible repeat (first | apply Kd.R_alloc | apply Kd.R_drewN | apply Kd.R_drew)); exact HO15.out)) hb); have m4_ := Aside0.mk (Kd.V_below (by ((with_reducible repeat (first | apply Kd.V_alloc | apply Kd.V_drewN | apply Kd.V_drew)); exact HO20.out)) hb); have m5_ := Aside0.mk (Kd.S_below (by ((with_reducible repeat (first | apply Kd.S_alloc | apply Kd.S_drewN | apply Kd.S_drew)); exact HO24.out)) hb); have m6_ := Aside0.mk (Kd.R_below (by ((with_reducible repeat (first | apply Kd.R_alloc | apply Kd.R_drewN | apply Kd.R_drew)); exact HO29.out)) hb); have mB_ := Aside0.mk (below_step (by (repeat (first | (with_reducible first | exact HB.out | apply below_alloc | apply pw_below_drewN | apply below_drew1 | refine below_set ?_ GE2.out | refine below_set ?_ GE8.out) | exact HB.out))) hb); have mL_ := Aside0.mk (by (repeat (first | exact HZ.out | (with_reducible first | apply sz_alloc | apply sz_drewN | apply sz_drew | apply sz_set))) : n9 ≤ _); obtain ⟨n10, hn_⟩ : ∃ n_, n_ = w1038.heap.size := ⟨_, rfl⟩; have mN_ := Aside0.mk (by rw [hn_]; exact Nat.le_trans mL_.out hb.size : n9 ≤ n10); have mZ_ := Aside0.mk (Nat.le_of_eq hn_ : n10 ≤ w1038.heap.size); have xHO32_ := Aside0.mk (show Kd.R (Kd.int .i64) 3 w1038 w.heap.size (fun k_ => n9 ≤ k_ ∧ k_ < n10) _ g16 from Kd.R_mono (Kd.R_lower (Kd.R_bound ho0_) (below_size (by (repeat (first | (with_reducible first | exact HB.out | apply below_alloc | apply pw_below_drewN | apply below_drew1 | refine below_set ?_ GE2.out | refine below_set ?_ GE8.out) | exact HB.out))))) (fun k_ hk_ => ⟨Nat.le_trans mL_.out hk_.2.1, by rw [hn_]; exact hk_.2.2.1⟩)); clear BK2 BK8 HO11 HO15 HO20 HO24 HO29 HB HZ; have BK2 := m0_; have BK8 := m1_; have HO11 := m2_; have HO15 := m3_; have HO20 := m4_; have HO24 := m5_; have HO29 := m6_; have HB := mB_; have HZ := mZ_; have HN10 := mN_; have HO32 := xHO32_; clear m0_ m1_ m2_ m3_ m4_ m5_ m6_ mB_ mN_ mZ_ mL_ xHO32_; (try clear hn_); clear hb ho0_; obtain ⟨Ao32, co32, eo_⟩ := Kd.R_slice HO32.out; subst eo_) | ((with_reducible refine gate_callee (f := 35) rfl ?_); refine goesL_ (some 47) rfl rfl Tryd.func35 (by kernel_rfl) rfl #[.slice Ao32 g16.length co32, .slice Ao20 s18.length co20] rfl (by (try simp only [List.map_toArray, List.map_cons, List.map_nil]); first | done | rfl) ?_; (with_reducible refine (laws_eqIntS.calls k _ _ g16 _ _ s18 true _ ?sr0 ?sc0 ?sr1 ?sc1 E9.out).mono ?_); (case sr0 => repeat (first | exact (Kd.R_reads' HO32.out).2.2 | (with_reducible refine Kd.C_alloc ?_ _) | (with_reducible refine Kd.C_drewN ?_ _) | (with_reducible refine Kd.C_drew ?_))); (case sc0 => first | exact (Kd.R_reads' HO32.out).2.1 | exact Nat.le_trans (Nat.le_of_eq (Kd.R_reads' HO32.out).1.symm) (Kd.R_reads' HO32.out).2.1); (case sr1 => repeat (first | exact (Kd.V_reads' HO20.out).2.2 | (with_reducible refine Kd.C_alloc ?_ _) | (with_reducible refine Kd.C_drewN ?_ _) | (with_reducible refine Kd.C_drew ?_))); (case sc1 => first | exact (Kd.V_reads' HO20.out).2.1 | exact Nat.le_trans (Nat.le_of_eq (Kd.V_reads' HO20.out).1.symm) (Kd.V_reads' HO20.out).2.1); rintro e w1041 ⟨rfl, hd_⟩; have hb := hd_.below; clear hd_; refine ⟨_, rfl, ?_⟩; have m0_ := Aside0.mk (blk_below (g := gb2) (o := .cells #[.slice A0_0 l0_0.length c0_0] 55 (0, 0)) (by ((with_reducible repeat (first | refine blk_drewN ?_ _ | refine blk_drew ?_ | refine blk_alloc ?_ _)); exact BK2.out)) hb); have m1_ := Aside0.mk (blk_below (g := gb8) (o := .cells #[.slice Ao24 t9.length co24] 26 (0, 0)) (by ((with_reducible repeat (first | refine blk_drewN ?_ _ | refine blk_drew ?_ | refine blk_alloc ?_ _)); exact BK8.out)) hb); have m2_ := Aside0.mk (Kd.S_below (by ((with_reducible repeat (first | apply Kd.S_alloc | apply Kd.S_drewN | apply Kd.S_drew)); exact HO11.out)) hb); have m3_ := Aside0.mk (Kd.R_below (by ((with_reducible repeat (first | apply Kd.R_alloc | apply Kd.R_drewN | apply Kd.R_drew)); exact HO15.out)) hb); have m4_ := Aside0.mk (Kd.V_below (by ((with_reducible repeat (first | apply Kd.V_alloc | apply Kd.V_drewN | apply Kd.V_drew)); exact HO20.out)) hb); have m5_ := Aside0.mk (Kd.S_below (by ((with_reducible repeat (first | apply Kd.S_alloc | apply Kd.S_drewN | apply Kd.S_drew)); exact HO24.out)) hb); have m6_ := Aside0.mk (Kd.R_below (by ((with_reducible repeat (first | apply Kd.R_alloc | apply Kd.R_drewN | apply Kd.R_drew)); exact HO29.out)) hb); have m7_ := Aside0.mk (Kd.R_below (by ((with_reducible repeat (first | apply Kd.R_alloc | apply Kd.R_drewN | apply Kd.R_drew)); exact HO32.out)) hb); have mB_ := Aside0.mk (below_step (by (repeat (first | (with_reducible first | exact HB.out | apply below_alloc | apply pw_below_drewN | apply below_drew1 | refine below_set ?_ GE2.out | refine below_set ?_ GE8.out) | exact HB.out))) hb); have mL_ := Aside0.mk (by (repeat (first | exact HZ.out | (with_reducible first | apply sz_alloc | apply sz_drewN | apply sz_drew | apply sz_set))) : n10 ≤ _); obtain ⟨n11, hn_⟩ : ∃ n_, n_ = w1041.heap.size := ⟨_, rfl⟩; have mN_ := Aside0.mk (by rw [hn_]; exact Nat.le_trans mL_.out hb.size : n10 ≤ n11); have mZ_ := Aside0.mk (Nat.le_of_eq hn_ : n11 ≤ w1041.heap.size); clear BK2 BK8 HO11 HO15 HO20 HO24 HO29 HO32 HB HZ; have BK2 := m0_; have BK8 := m1_; have HO11 := m2_; have HO15 := m3_; have HO20 := m4_; have HO24 := m5_; have HO29 := m6_; have HO32 := m7_; have HB := mB_; have HZ := mZ_; have HN11 := mN_; clear m0_ m1_ m2_ m3_ m4_ m5_ m6_ m7_ mB_ mN_ mZ_ mL_; (try clear hn_); clear hb))
  try go_wp2
  have m0_ := Aside0.mk (show (World.drew w1041).heap[gb2]? = some (Obj.cells #[.slice A0_0 l0_0.length c0_0] 55 (0, 0)) from blk_drew (by ((with_reducible repeat (first | refine blk_drewN ?_ _ | refine blk_drew ?_ | refine blk_alloc ?_ _)); exact BK2.out)))
  have m1_ := Aside0.mk (show (World.drew w1041).heap[gb8]? = some (Obj.cells #[.slice Ao24 t9.length co24] 26 (0, 0)) from blk_drew (by ((with_reducible repeat (first | refine blk_drewN ?_ _ | refine blk_drew ?_ | refine blk_alloc ?_ _)); exact BK8.out)))
  have m2_ := Aside0.mk (show Kd.S (Kd.slice 5 (Kd.int .u8)) 22 w1041.drew w.heap.size (fun k_ => n3 ≤ k_ ∧ k_ < n4) (.slice Ao11 t9.length co11) t9 from Kd.S_drew (by ((with_reducible repeat (first | apply Kd.S_alloc | apply Kd.S_drewN | apply Kd.S_drew)); exact HO11.out)))
  have m3_ := Aside0.mk (show Kd.R k28 28 w1041.drew w.heap.size (fun k_ => n4 ≤ k_ ∧ k_ < n5) (.slice Ao15 t13.length co15) t13 from Kd.R_drew (by ((with_reducible repeat (first | apply Kd.R_alloc | apply Kd.R_drewN | apply Kd.R_drew)); exact HO15.out)))
  have m4_ := Aside0.mk (show Kd.V (Kd.int .i64) 3 w1041.drew w.heap.size (fun k_ => n5 ≤ k_ ∧ k_ < n6) (.slice Ao20 s18.length co20) s18 from Kd.V_drew (by ((with_reducible repeat (first | apply Kd.V_alloc | apply Kd.V_drewN | apply Kd.V_drew)); exact HO20.out)))
  have m5_ := Aside0.mk (show Kd.S (Kd.slice 5 (Kd.int .u8)) 22 w1041.drew w.heap.size (fun k_ => n6 ≤ k_ ∧ k_ < n7) (.slice Ao24 t9.length co24) t9 from Kd.S_drew (by ((with_reducible repeat (first | apply Kd.S_alloc | apply Kd.S_drewN | apply Kd.S_drew)); exact HO24.out)))
  have m6_ := Aside0.mk (show Kd.R k28 28 w1041.drew w.heap.size (fun k_ => n8 ≤ k_ ∧ k_ < n9) (.slice Ao29 t13.length co29) t13 from Kd.R_drew (by ((with_reducible repeat (first | apply Kd.R_alloc | apply Kd.R_drewN | apply Kd.R_drew)); exact HO29.out)))
  have m7_ := Aside0.mk (show Kd.R (Kd.int .i64) 3 w1041.drew w.heap.size (fun k_ => n9 ≤ k_ ∧ k_ < n10) (.slice Ao32 g16.length co32) g16 from Kd.R_drew (by ((with_reducible repeat (first | apply Kd.R_alloc | apply Kd.R_drewN | apply Kd.R_drew)); exact HO32.out)))
  have m8_ := Aside0.mk (show Below w.heap.size w w1041.drew from below_drew1 (by (repeat (first | (with_reducible first | exact HB.out | apply below_alloc | apply pw_below_drewN | apply below_drew1 | refine below_set ?_ GE2.out | refine below_set ?_ GE8.out) | exact HB.out))))
  have m9_ := Aside0.mk (show n11 ≤ w1041.drew.heap.size from sz_drew (by (repeat (first | exact HZ.out | (with_reducible first | apply sz_alloc | apply sz_drewN | apply sz_drew | apply sz_set)))))
  clear BK2 BK8 HO11 HO15 HO20 HO24 HO29 HO32 HB HZ
  have BK2 := m0_
  have BK8 := m1_
  have HO11 := m2_
  have HO15 := m3_
  have HO20 := m4_
  have HO24 := m5_
  have HO29 := m6_
  have HO32 := m7_
  have HB := m8_
  have HZ := m9_
  clear m0_ m1_ m2_ m3_ m4_ m5_ m6_ m7_ m8_ m9_
  refine start_ (n := 5) (S := fun w' => w'.cell? ⟨gb8, 0, none⟩ = some (.slice Ao24 t9.length co24) ∧ w'.cell? ⟨gb2, 0, none⟩ = some (.slice A0_0 l0_0.length c0_0)) (ds := []) #[false, false, false, false, false] (by kernel_rfl) rfl rfl ⟨(blk_cell BK8.out 0).trans rfl, (blk_cell BK2.out 0).trans rfl⟩ (fun hHeld => ?_)
  generalize w1041.drew = w2034 at BK2 BK8 HO11 HO15 HO20 HO24 HO29 HO32 HB HZ hHeld ⊢
  refine take_ (i := 0) (N := some 54) (v := ?_) (a' := ?_) #[true, false, false, false, false] rfl rfl (by kernel_rfl) (fun _ _ _ h => h) (Or.inl ⟨by rfl, ?_⟩) hHeld ?_ ?_
  rotate_left
  · rintro w' ⟨s0_, s1_⟩
    go_simp
    with_reducible rfl
  rotate_left
  · simp only [Act.put, List.setIfInBounds_toArray, List.set_cons_zero, List.set_cons_succ, i64_w, i32_w]
    rfl
  refine take_ (i := 1) (N := some 55) (v := ?_) (a' := ?_) #[true, true, false, false, false] rfl rfl (by kernel_rfl) (fun _ _ _ h => h) (Or.inl ⟨by rfl, ?_⟩) hHeld ?_ ?_
  rotate_left
  · rintro w' ⟨s0_, s1_⟩
    go_simp
    with_reducible rfl
  rotate_left
  · simp only [Act.put, List.setIfInBounds_toArray, List.set_cons_zero, List.set_cons_succ, i64_w, i32_w]
    rfl
  refine one_ (i := 2) (N := some 56) #[true, true, true, false, false] rfl rfl (by kernel_rfl) (by decide) (fun K hK => ?_)
  refine goes_ Tryd.func33 (by kernel_rfl) rfl #[.agg #[.slice A0_0 l0_0.length c0_0]] (by rfl) rfl rfl (by (try simp only [List.map_toArray, List.map_cons, List.map_nil]); first | done | rfl | (simp only [List.length_drop, List.length_take]; rfl)) ?_
  (with_reducible refine (laws_toMemory.calls k _ _ l0_0 t9 _ ?sr0 ?sc0 E3.out).mono ?_)
  (case sr0 => exact Kd.C_below HR0_0.out (by (repeat (first | (with_reducible first | exact HB.out | apply below_alloc | apply pw_below_drewN | apply below_drew1 | refine below_set ?_ GE2.out | refine below_set ?_ GE8.out) | exact HB.out))))
  (case sc0 => exact HC0_0.out)
  rintro e w1045 ⟨v10_0, rfl, ho0_, hb⟩
  refine ⟨_, rfl, ?_⟩
  have m0_ := Aside0.mk (blk_below (g := gb2) (o := .cells #[.slice A0_0 l0_0.length c0_0] 55 (0, 0)) (by ((with_reducible repeat (first | refine blk_drewN ?_ _ | refine blk_drew ?_ | refine blk_alloc ?_ _)); exact BK2.out)) hb)
  have m1_ := Aside0.mk (blk_below (g := gb8) (o := .cells #[.slice Ao24 t9.length co24] 26 (0, 0)) (by ((with_reducible repeat (first | refine blk_drewN ?_ _ | refine blk_drew ?_ | refine blk_alloc ?_ _)); exact BK8.out)) hb)
  have m2_ := Aside0.mk (Kd.S_below (by ((with_reducible repeat (first | apply Kd.S_alloc | apply Kd.S_drewN | apply Kd.S_drew)); exact HO11.out)) hb)
  have m3_ := Aside0.mk (Kd.R_below (by ((with_reducible repeat (first | apply Kd.R_alloc | apply Kd.R_drewN | apply Kd.R_drew)); exact HO15.out)) hb)
  have m4_ := Aside0.mk (Kd.V_below (by ((with_reducible repeat (first | apply Kd.V_alloc | apply Kd.V_drewN | apply Kd.V_drew)); exact HO20.out)) hb)
  have m5_ := Aside0.mk (Kd.S_below (by ((with_reducible repeat (first | apply Kd.S_alloc | apply Kd.S_drewN | apply Kd.S_drew)); exact HO24.out)) hb)
  have m6_ := Aside0.mk (Kd.R_below (by ((with_reducible repeat (first | apply Kd.R_alloc | apply Kd.R_drewN | apply Kd.R_drew)); exact HO29.out)) hb)
  have m7_ := Aside0.mk (Kd.R_below (by ((with_reducible repeat (first | apply Kd.R_alloc | apply Kd.R_drewN | apply Kd.R_drew)); exact HO32.out)) hb)
  have mB_ := Aside0.mk (below_step (by (repeat (first | (with_reducible first | exact HB.out | apply below_alloc | apply pw_below_drewN | apply below_drew1 | refine below_set ?_ GE2.out | refine below_set ?_ GE8.out) | exact HB.out))) hb)
  have mL_ := Aside0.mk (by (repeat (first | exact HZ.out | (with_reducible first | apply sz_alloc | apply sz_drewN | apply sz_drew | apply sz_set))) : n11 ≤ _)
  obtain ⟨n12, hn_⟩ : ∃ n_, n_ = w1045.heap.size := ⟨_, rfl⟩
  have mN_ := Aside0.mk (by rw [hn_]; exact Nat.le_trans mL_.out hb.size : n11 ≤ n12)
  have mZ_ := Aside0.mk (Nat.le_of_eq hn_ : n12 ≤ w1045.heap.size)
  have xHO37_ := Aside0.mk (show Kd.S (Kd.slice 5 (Kd.int .u8)) 22 w1045 w.heap.size (fun k_ => n11 ≤ k_ ∧ k_ < n12) _ t9 from Kd.S_mono (Kd.S_lower (Kd.S_bound ho0_) (below_size (by (repeat (first | (with_reducible first | exact HB.out | apply below_alloc | apply pw_below_drewN | apply below_drew1 | refine below_set ?_ GE2.out | refine below_set ?_ GE8.out) | exact HB.out))))) (fun k_ hk_ => ⟨Nat.le_trans mL_.out hk_.2.1, by rw [hn_]; exact hk_.2.2.1⟩))
  clear BK2 BK8 HO11 HO15 HO20 HO24 HO29 HO32 HB HZ
  have BK2 := m0_
  have BK8 := m1_
  have HO11 := m2_
  have HO15 := m3_
  have HO20 := m4_
  have HO24 := m5_
  have HO29 := m6_
  have HO32 := m7_
  have HB := mB_
  have HZ := mZ_
  have HN12 := mN_
  have HO37 := xHO37_
  clear m0_ m1_ m2_ m3_ m4_ m5_ m6_ m7_ mB_ mN_ mZ_ mL_ xHO37_
  (try clear hn_)
  clear hb ho0_
  obtain ⟨Ao37, co37, eo_⟩ := Kd.S_slice HO37.out; subst eo_
  refine hK.out _ _ ⟨(blk_cell BK8.out 0).trans rfl, (blk_cell BK2.out 0).trans rfl⟩ (fun hHeld => ?_)
  clear hK K
  refine norm_ (a' := ?_) ?_ ?_
  rotate_left
  · show Act.put _ (some 56) _ = _
    simp only [Act.put, List.setIfInBounds_toArray, List.set_cons_zero, List.set_cons_succ, i64_w, i32_w]
    rfl
  refine one_ (i := 3) (N := some 57) #[true, true, true, true, false] rfl rfl (by kernel_rfl) (by decide) (fun K hK => ?_)
  refine goes_ Tryd.func36 (by kernel_rfl) rfl #[.agg #[.slice Ao24 t9.length co24], .agg #[.slice Ao37 t9.length co37]] (by rfl) rfl rfl (by (try simp only [List.map_toArray, List.map_cons, List.map_nil]); first | done | rfl | (simp only [List.length_drop, List.length_take]; rfl)) ?_
  (with_reducible refine (laws_eqMemory.calls k _ _ t9 _ _ t9 true _ ?sr0 ?sc0 ?sr1 ?sc1 E11.out).mono ?_)
  (case sr0 => repeat (first | exact (Kd.S_reads' HO24.out).2.2 | (with_reducible refine Kd.C_alloc ?_ _) | (with_reducible refine Kd.C_drewN ?_ _) | (with_reducible refine Kd.C_drew ?_)))
  (case sc0 => first | exact (Kd.S_reads' HO24.out).2.1 | exact Nat.le_trans (Nat.le_of_eq (Kd.S_reads' HO24.out).1.symm) (Kd.S_reads' HO24.out).2.1)
  (case sr1 => repeat (first | exact (Kd.S_reads' HO37.out).2.2 | (with_reducible refine Kd.C_alloc ?_ _) | (with_reducible refine Kd.C_drewN ?_ _) | (with_reducible refine Kd.C_drew ?_)))
  (case sc1 => first | exact (Kd.S_reads' HO37.out).2.1 | exact Nat.le_trans (Nat.le_of_eq (Kd.S_reads' HO37.out).1.symm) (Kd.S_reads' HO37.out).2.1)
  rintro e w1048 ⟨rfl, hb⟩
  refine ⟨_, rfl, ?_⟩
  have m0_ := Aside0.mk (blk_below (g := gb2) (o := .cells #[.slice A0_0 l0_0.length c0_0] 55 (0, 0)) (by ((with_reducible repeat (first | refine blk_drewN ?_ _ | refine blk_drew ?_ | refine blk_alloc ?_ _)); exact BK2.out)) hb)
  have m1_ := Aside0.mk (blk_below (g := gb8) (o := .cells #[.slice Ao24 t9.length co24] 26 (0, 0)) (by ((with_reducible repeat (first | refine blk_drewN ?_ _ | refine blk_drew ?_ | refine blk_alloc ?_ _)); exact BK8.out)) hb)
  have m2_ := Aside0.mk (Kd.S_below (by ((with_reducible repeat (first | apply Kd.S_alloc | apply Kd.S_drewN | apply Kd.S_drew)); exact HO11.out)) hb)
  have m3_ := Aside0.mk (Kd.R_below (by ((with_reducible repeat (first | apply Kd.R_alloc | apply Kd.R_drewN | apply Kd.R_drew)); exact HO15.out)) hb)
  have m4_ := Aside0.mk (Kd.V_below (by ((with_reducible repeat (first | apply Kd.V_alloc | apply Kd.V_drewN | apply Kd.V_drew)); exact HO20.out)) hb)
  have m5_ := Aside0.mk (Kd.S_below (by ((with_reducible repeat (first | apply Kd.S_alloc | apply Kd.S_drewN | apply Kd.S_drew)); exact HO24.out)) hb)
  have m6_ := Aside0.mk (Kd.R_below (by ((with_reducible repeat (first | apply Kd.R_alloc | apply Kd.R_drewN | apply Kd.R_drew)); exact HO29.out)) hb)
  have m7_ := Aside0.mk (Kd.R_below (by ((with_reducible repeat (first | apply Kd.R_alloc | apply Kd.R_drewN | apply Kd.R_drew)); exact HO32.out)) hb)
  have m8_ := Aside0.mk (Kd.S_below (by ((with_reducible repeat (first | apply Kd.S_alloc | apply Kd.S_drewN | apply Kd.S_drew)); exact HO37.out)) hb)
  have mB_ := Aside0.mk (below_step (by (repeat (first | (with_reducible first | exact HB.out | apply below_alloc | apply pw_below_drewN | apply below_drew1 | refine below_set ?_ GE2.out | refine below_set ?_ GE8.out) | exact HB.out))) hb)
  have mL_ := Aside0.mk (by (repeat (first | exact HZ.out | (with_reducible first | apply sz_alloc | apply sz_drewN | apply sz_drew | apply sz_set))) : n12 ≤ _)
  obtain ⟨n13, hn_⟩ : ∃ n_, n_ = w1048.heap.size := ⟨_, rfl⟩
  have mN_ := Aside0.mk (by rw [hn_]; exact Nat.le_trans mL_.out hb.size : n12 ≤ n13)
  have mZ_ := Aside0.mk (Nat.le_of_eq hn_ : n13 ≤ w1048.heap.size)
  clear BK2 BK8 HO11 HO15 HO20 HO24 HO29 HO32 HO37 HB HZ
  have BK2 := m0_
  have BK8 := m1_
  have HO11 := m2_
  have HO15 := m3_
  have HO20 := m4_
  have HO24 := m5_
  have HO29 := m6_
  have HO32 := m7_
  have HO37 := m8_
  have HB := mB_
  have HZ := mZ_
  have HN13 := mN_
  clear m0_ m1_ m2_ m3_ m4_ m5_ m6_ m7_ m8_ mB_ mN_ mZ_ mL_
  (try clear hn_)
  clear hb
  refine hK.out _ _ ⟨(blk_cell BK8.out 0).trans rfl, (blk_cell BK2.out 0).trans rfl⟩ (fun hHeld => ?_)
  clear hK K
  refine norm_ (a' := ?_) ?_ ?_
  rotate_left
  · show Act.put _ (some 57) _ = _
    simp only [Act.put, List.setIfInBounds_toArray, List.set_cons_zero, List.set_cons_succ, i64_w, i32_w]
    rfl
  refine pure_ (i := 4) (N := some 58) (v := ?_) (a' := ?_) #[true, true, true, true, true] rfl rfl (by kernel_rfl) (fun _ _ _ h => h) (Or.inl ⟨by rfl, ?_⟩) ?_ ?_
  rotate_left
  · intro w'
    go_simp
    with_reducible rfl
  rotate_left
  · simp only [Act.put, List.setIfInBounds_toArray, List.set_cons_zero, List.set_cons_succ, i64_w, i32_w]
    rfl
  refine done_ (by kernel_rfl) ?_
  go_wp2_with (first | ((with_reducible refine gate_callee (f := 34) rfl ?_); refine goesL_ (some 61) rfl rfl Tryd.func34 (by kernel_rfl) rfl #[.slice A1 l1.length c1] rfl (by (try simp only [List.map_toArray, List.map_cons, List.map_nil]); first | done | rfl) ?_; (with_reducible refine (laws_toWindowS.calls k _ _ l1 t13 _ ?sr0 ?sc0 E4.out).mono ?_); (case sr0 => exact Kd.C_below HR1.out (by (repeat (first | (with_reducible first | exact HB.out | apply below_alloc | apply pw_below_drewN | apply below_drew1 | refine below_set ?_ GE2.out | refine below_set ?_ GE8.out) | exact HB.out)))); (case sc0 => exact HC1.out); rintro e w1051 ⟨v12_0, rfl, ho0_, hb⟩; refine ⟨_, rfl, ?_⟩; have m0_ := Aside0.mk (blk_below (g := gb2) (o := .cells #[.slice A0_0 l0_0.length c0_0] 55 (0, 0)) (by ((with_reducible repeat (first | refine blk_drewN ?_ _ | refine blk_drew ?_ | refine blk_alloc ?_ _)); exact BK2.out)) hb); have m1_ := Aside0.mk (blk_below (g := gb8) (o := .cells #[.slice Ao24 t9.length co24] 26 (0, 0)) (by ((with_reducible repeat (first | refine blk_drewN ?_ _ | refine blk_drew ?_ | refine blk_alloc ?_ _)); exact BK8.out)) hb); have m2_ := Aside0.mk (Kd.S_below (by ((with_reducible repeat (first | apply Kd.S_alloc | apply Kd.S_drewN | apply Kd.S_drew)); exact HO11.out)) hb); have m3_ := Aside0.mk (Kd.R_below (by ((with_reducible repeat (first | apply Kd.R_alloc | apply Kd.R_drewN | apply Kd.R_drew)); exact HO15.out)) hb); have m4_ := Aside0.mk (Kd.V_below (by ((with_reducible repeat (first | apply Kd.V_alloc | apply Kd.V_drewN | apply Kd.V_drew)); exact HO20.out)) hb); have m5_ := Aside0.mk (Kd.S_below (by ((with_reducible repeat (first | apply Kd.S_alloc | apply Kd.S_drewN | apply Kd.S_drew)); exact HO24.out)) hb); have m6_ := Aside0.mk (Kd.R_below (by ((with_reducible repeat (first | apply Kd.R_alloc | apply Kd.R_drewN | apply Kd.R_drew)); exact HO29.out)) hb); have m7_ := Aside0.mk (Kd.R_below (by ((with_reducible repeat (first | apply Kd.R_alloc | apply Kd.R_drewN | apply Kd.R_drew)); exact HO32.out)) hb); have m8_ := Aside0.mk (Kd.S_below (by ((with_reducible repeat (first | apply Kd.S_alloc | apply Kd.S_drewN | apply Kd.S_drew)); exact HO37.out)) hb); have mB_ := Aside0.mk (below_step (by (repeat (first | (with_reducible first | exact HB.out | apply below_alloc | apply pw_below_drewN | apply below_drew1 | refine below_set ?_ GE2.out | refine below_set ?_ GE8.out) | exact HB.out))) hb); have mL_ := Aside0.mk (by (repeat (first | exact HZ.out | (with_reducible first | apply sz_alloc | apply sz_drewN | apply sz_drew | apply sz_set))) : n13 ≤ _); obtain ⟨n14, hn_⟩ : ∃ n_, n_ = w1051.heap.size := ⟨_, rfl⟩; have mN_ := Aside0.mk (by rw [hn_]; exact Nat.le_trans mL_.out hb.size : n13 ≤ n14); have mZ_ := Aside0.mk (Nat.le_of_eq hn_ : n14 ≤ w1051.heap.size); have xHO41_ := Aside0.mk (show Kd.R k28 28 w1051 w.heap.size (fun k_ => n13 ≤ k_ ∧ k_ < n14) _ t13 from Kd.R_mono (Kd.R_lower (Kd.R_bound ho0_) (below_size (by (repeat (first | (with_reducible first | exact HB.out | apply below_alloc | apply pw_below_drewN | apply below_drew1 | refine below_set ?_ GE2.out | refine below_set ?_ GE8.out) | exact HB.out))))) (fun k_ hk_ => ⟨Nat.le_trans mL_.out hk_.2.1, by rw [hn_]; exact hk_.2.2.1⟩)); clear BK2 BK8 HO11 HO15 HO20 HO24 HO29 HO32 HO37 HB HZ; have BK2 := m0_; have BK8 := m1_; have HO11 := m2_; have HO15 := m3_; have HO20 := m4_; have HO24 := m5_; have HO29 := m6_; have HO32 := m7_; have HO37 := m8_; have HB := mB_; have HZ := mZ_; have HN14 := mN_; have HO41 := xHO41_; clear m0_ m1_ m2_ m3_ m4_ m5_ m6_ m7_ m8_ mB_ mN_ mZ_ mL_ xHO41_; (try clear hn_); clear hb ho0_; obtain ⟨Ao41, co41, eo_⟩ := Kd.R_slice HO41.out; subst eo_) | ((with_reducible refine gate_callee (f := 37) rfl ?_); refine goesL_ (some 62) rfl rfl Tryd.func37 (by kernel_rfl) rfl #[.slice Ao29 t13.length co29, .slice Ao41 t13.length co41] rfl (by (try simp only [List.map_toArray, List.map_cons, List.map_nil]); first | done | rfl) ?_; (with_reducible refine (laws_eqWindowS.calls k _ _ t13 _ _ t13 true _ ?sr0 ?sc0 ?sr1 ?sc1 E13.out).mono ?_); (case sr0 => repeat (first | exact (Kd.R_reads' HO29.out).2.2 | (with_reducible refine Kd.C_alloc ?_ _) | (with_reducible refine Kd.C_drewN ?_ _) | (with_reducible refine Kd.C_drew ?_))); (case sc0 => first | exact (Kd.R_reads' HO29.out).2.1 | exact Nat.le_trans (Nat.le_of_eq (Kd.R_reads' HO29.out).1.symm) (Kd.R_reads' HO29.out).2.1); (case sr1 => repeat (first | exact (Kd.R_reads' HO41.out).2.2 | (with_reducible refine Kd.C_alloc ?_ _) | (with_reducible refine Kd.C_drewN ?_ _) | (with_reducible refine Kd.C_drew ?_))); (case sc1 => first | exact (Kd.R_reads' HO41.out).2.1 | exact Nat.le_trans (Nat.le_of_eq (Kd.R_reads' HO41.out).1.symm) (Kd.R_reads' HO41.out).2.1); rintro e w1054 ⟨rfl, hb⟩; refine ⟨_, rfl, ?_⟩; have m0_ := Aside0.mk (blk_below (g := gb2) (o := .cells #[.slice A0_0 l0_0.length c0_0] 55 (0, 0)) (by ((with_reducible repeat (first | refine blk_drewN ?_ _ | refine blk_drew ?_ | refine blk_alloc ?_ _)); exact BK2.out)) hb); have m1_ := Aside0.mk (blk_below (g := gb8) (o := .cells #[.slice Ao24 t9.length co24] 26 (0, 0)) (by ((with_reducible repeat (first | refine blk_drewN ?_ _ | refine blk_drew ?_ | refine blk_alloc ?_ _)); exact BK8.out)) hb); have m2_ := Aside0.mk (Kd.S_below (by ((with_reducible repeat (first | apply Kd.S_alloc | apply Kd.S_drewN | apply Kd.S_drew)); exact HO11.out)) hb); have m3_ := Aside0.mk (Kd.R_below (by ((with_reducible repeat (first | apply Kd.R_alloc | apply Kd.R_drewN | apply Kd.R_drew)); exact HO15.out)) hb); have m4_ := Aside0.mk (Kd.V_below (by ((with_reducible repeat (first | apply Kd.V_alloc | apply Kd.V_drewN | apply Kd.V_drew)); exact HO20.out)) hb); have m5_ := Aside0.mk (Kd.S_below (by ((with_reducible repeat (first | apply Kd.S_alloc | apply Kd.S_drewN | apply Kd.S_drew)); exact HO24.out)) hb); have m6_ := Aside0.mk (Kd.R_below (by ((with_reducible repeat (first | apply Kd.R_alloc | apply Kd.R_drewN | apply Kd.R_drew)); exact HO29.out)) hb); have m7_ := Aside0.mk (Kd.R_below (by ((with_reducible repeat (first | apply Kd.R_alloc | apply Kd.R_drewN | apply Kd.R_drew)); exact HO32.out)) hb); have m8_ := Aside0.mk (Kd.S_below (by ((with_reducible repeat (first | apply Kd.S_alloc | apply Kd.S_drewN | apply Kd.S_drew)); exact HO37.out)) hb); have m9_ := Aside0.mk (Kd.R_below (by ((with_reducible repeat (first | apply Kd.R_alloc | apply Kd.R_drewN | apply Kd.R_drew)); exact HO41.out)) hb); have mB_ := Aside0.mk (below_step (by (repeat (first | (with_reducible first | exact HB.out | apply below_alloc | apply pw_below_drewN | apply below_drew1 | refine below_set ?_ GE2.out | refine below_set ?_ GE8.out) | exact HB.out))) hb); have mL_ := Aside0.mk (by (repeat (first | exact HZ.out | (with_reducible first | apply sz_alloc | apply sz_drewN | apply sz_drew | apply sz_set))) : n14 ≤ _); obtain ⟨n15, hn_⟩ : ∃ n_, n_ = w1054.heap.size := ⟨_, rfl⟩; have mN_ := Aside0.mk (by rw [hn_]; exact Nat.le_trans mL_.out hb.size : n14 ≤ n15); have mZ_ := Aside0.mk (Nat.le_of_eq hn_ : n15 ≤ w1054.heap.size); clear BK2 BK8 HO11 HO15 HO20 HO24 HO29 HO32 HO37 HO41 HB HZ; have BK2 := m0_; have BK8 := m1_; have HO11 := m2_; have HO15 := m3_; have HO20 := m4_; have HO24 := m5_; have HO29 := m6_; have HO32 := m7_; have HO37 := m8_; have HO41 := m9_; have HB := mB_; have HZ := mZ_; have HN15 := mN_; clear m0_ m1_ m2_ m3_ m4_ m5_ m6_ m7_ m8_ m9_ mB_ mN_ mZ_ mL_; (try clear hn_); clear hb; have hc43_0 := (blk_cell BK8.out 0).trans (show (#[.slice Ao24 t9.length co24] : Array Value)[0]? = some (.slice Ao24 t9.length co24) from rfl); have hf43_0 := blk_frozen BK8.out 0) | ((with_reducible refine gate_callee (f := 38) rfl ?_); refine goesL_ (some 66) rfl rfl Tryd.func38 (by kernel_rfl) rfl #[.agg #[.slice Ao24 t9.length co24], .int .i64 1] rfl (by (try simp only [List.map_toArray, List.map_cons, List.map_nil]); first | done | rfl) ?_; (with_reducible refine (laws_markMemory.calls k (fun k_ => n6 ≤ k_ ∧ k_ < n7) _ t9 1 m44 y45 w _ ?sideB ?sideO E14.out).mono ?_); (case sideB => exact (by (repeat (first | (with_reducible first | exact HB.out | apply below_alloc | apply pw_below_drewN | apply below_drew1 | refine below_set ?_ GE2.out | refine below_set ?_ GE8.out) | exact HB.out)))); (case sideO => exact (by ((with_reducible repeat (first | apply Kd.S_alloc | apply Kd.S_drewN | apply Kd.S_drew)); exact HO24.out))); rintro e w1059 ⟨rfl, ho_, hb2_, hk⟩; refine ⟨_, rfl, ?_⟩; have m0_ := Aside0.mk (blk_kept (g := gb2) (o := .cells #[.slice A0_0 l0_0.length c0_0] 55 (0, 0)) (by ((with_reducible repeat (first | refine blk_drewN ?_ _ | refine blk_drew ?_ | refine blk_alloc ?_ _)); exact BK2.out)) hk (fun h_ => by have h1_ := HI2.out; have q1_ := HN1.out; have q2_ := HN2.out; have q3_ := HN3.out; have q4_ := HN4.out; have q5_ := HN5.out; have q6_ := HN6.out; have q7_ := HN7.out; have q8_ := HN8.out; have q9_ := HN9.out; have q10_ := HN10.out; have q11_ := HN11.out; have q12_ := HN12.out; have q13_ := HN13.out; have q14_ := HN14.out; have q15_ := HN15.out; omega)); have m1_ := Aside0.mk (blk_kept (g := gb8) (o := .cells #[.slice Ao24 t9.length co24] 26 (0, 0)) (by ((with_reducible repeat (first | refine blk_drewN ?_ _ | refine blk_drew ?_ | refine blk_alloc ?_ _)); exact BK8.out)) hk (fun h_ => by have h1_ := HI8.out; have q1_ := HN1.out; have q2_ := HN2.out; have q3_ := HN3.out; have q4_ := HN4.out; have q5_ := HN5.out; have q6_ := HN6.out; have q7_ := HN7.out; have q8_ := HN8.out; have q9_ := HN9.out; have q10_ := HN10.out; have q11_ := HN11.out; have q12_ := HN12.out; have q13_ := HN13.out; have q14_ := HN14.out; have q15_ := HN15.out; omega)); have m2_ := Aside0.mk (Kd.S_kept (by ((with_reducible repeat (first | apply Kd.S_alloc | apply Kd.S_drewN | apply Kd.S_drew)); exact HO11.out)) hk (fun k_ h1_ h2_ => by have q1_ := HN1.out; have q2_ := HN2.out; have q3_ := HN3.out; have q4_ := HN4.out; have q5_ := HN5.out; have q6_ := HN6.out; have q7_ := HN7.out; have q8_ := HN8.out; have q9_ := HN9.out; have q10_ := HN10.out; have q11_ := HN11.out; have q12_ := HN12.out; have q13_ := HN13.out; have q14_ := HN14.out; have q15_ := HN15.out; omega)); have m3_ := Aside0.mk (Kd.R_kept (by ((with_reducible repeat (first | apply Kd.R_alloc | apply Kd.R_drewN | apply Kd.R_drew)); exact HO15.out)) hk (fun k_ h1_ h2_ => by have q1_ := HN1.out; have q2_ := HN2.out; have q3_ := HN3.out; have q4_ := HN4.out; have q5_ := HN5.out; have q6_ := HN6.out; have q7_ := HN7.out; have q8_ := HN8.out; have q9_ := HN9.out; have q10_ := HN10.out; have q11_ := HN11.out; have q12_ := HN12.out; have q13_ := HN13.out; have q14_ := HN14.out; have q15_ := HN15.out; omega)); have m4_ := Aside0.mk (Kd.V_kept (by ((with_reducible repeat (first | apply Kd.V_alloc | apply Kd.V_drewN | apply Kd.V_drew)); exact HO20.out)) hk (fun k_ h1_ h2_ => by have q1_ := HN1.out; have q2_ := HN2.out; have q3_ := HN3.out; have q4_ := HN4.out; have q5_ := HN5.out; have q6_ := HN6.out; have q7_ := HN7.out; have q8_ := HN8.out; have q9_ := HN9.out; have q10_ := HN10.out; have q11_ := HN11.out; have q12_ := HN12.out; have q13_ := HN13.out; have q14_ := HN14.out; have q15_ := HN15.out; omega)); have m5_ := Aside0.mk (Kd.R_kept (by ((with_reducible repeat (first | apply Kd.R_alloc | apply Kd.R_drewN | apply Kd.R_drew)); exact HO29.out)) hk (fun k_ h1_ h2_ => by have q1_ := HN1.out; have q2_ := HN2.out; have q3_ := HN3.out; have q4_ := HN4.out; have q5_ := HN5.out; have q6_ := HN6.out; have q7_ := HN7.out; have q8_ := HN8.out; have q9_ := HN9.out; have q10_ := HN10.out; have q11_ := HN11.out; have q12_ := HN12.out; have q13_ := HN13.out; have q14_ := HN14.out; have q15_ := HN15.out; omega)); have m6_ := Aside0.mk (Kd.R_kept (by ((with_reducible repeat (first | apply Kd.R_alloc | apply Kd.R_drewN | apply Kd.R_drew)); exact HO32.out)) hk (fun k_ h1_ h2_ => by have q1_ := HN1.out; have q2_ := HN2.out; have q3_ := HN3.out; have q4_ := HN4.out; have q5_ := HN5.out; have q6_ := HN6.out; have q7_ := HN7.out; have q8_ := HN8.out; have q9_ := HN9.out; have q10_ := HN10.out; have q11_ := HN11.out; have q12_ := HN12.out; have q13_ := HN13.out; have q14_ := HN14.out; have q15_ := HN15.out; omega)); have m7_ := Aside0.mk (Kd.S_kept (by ((with_reducible repeat (first | apply Kd.S_alloc | apply Kd.S_drewN | apply Kd.S_drew)); exact HO37.out)) hk (fun k_ h1_ h2_ => by have q1_ := HN1.out; have q2_ := HN2.out; have q3_ := HN3.out; have q4_ := HN4.out; have q5_ := HN5.out; have q6_ := HN6.out; have q7_ := HN7.out; have q8_ := HN8.out; have q9_ := HN9.out; have q10_ := HN10.out; have q11_ := HN11.out; have q12_ := HN12.out; have q13_ := HN13.out; have q14_ := HN14.out; have q15_ := HN15.out; omega)); have m8_ := Aside0.mk (Kd.R_kept (by ((with_reducible repeat (first | apply Kd.R_alloc | apply Kd.R_drewN | apply Kd.R_drew)); exact HO41.out)) hk (fun k_ h1_ h2_ => by have q1_ := HN1.out; have q2_ := HN2.out; have q3_ := HN3.out; have q4_ := HN4.out; have q5_ := HN5.out; have q6_ := HN6.out; have q7_ := HN7.out; have q8_ := HN8.out; have q9_ := HN9.out; have q10_ := HN10.out; have q11_ := HN11.out; have q12_ := HN12.out; have q13_ := HN13.out; have q14_ := HN14.out; have q15_ := HN15.out; omega)); have mO_ := Aside0.mk (show Kd.S (Kd.slice 5 (Kd.int .u8)) 22 w1059 w.heap.size (fun k_ => n6 ≤ k_ ∧ k_ < n7) (.slice Ao24 t9.length co24) y45 from ho_); have mL_ := Aside0.mk (by (repeat (first | exact HZ.out | (with_reducible first | apply sz_alloc | apply sz_drewN | apply sz_drew | apply sz_set))) : n15 ≤ _); have mZ_ := Aside0.mk (Nat.le_trans mL_.out hk.1 : n15 ≤ w1059.heap.size); have mB_ := Aside0.mk hb2_; clear BK2 BK8 HO11 HO15 HO20 HO29 HO32 HO37 HO41 HB HZ HO24; have BK2 := m0_; have BK8 := m1_; have HO11 := m2_; have HO15 := m3_; have HO20 := m4_; have HO29 := m5_; have HO32 := m6_; have HO37 := m7_; have HO41 := m8_; have HO24 := mO_; have HB := mB_; have HZ := mZ_; clear m0_ m1_ m2_ m3_ m4_ m5_ m6_ m7_ m8_ mO_ mB_ mZ_ mL_; clear ho_ hb2_ hk) | ((with_reducible refine gate_callee (f := 39) rfl ?_); refine goesL_ (some 69) rfl rfl Tryd.func39 (by kernel_rfl) rfl #[.slice Ao29 t13.length co29, .int .i64 m44] rfl (by (try simp only [List.map_toArray, List.map_cons, List.map_nil]); first | done | rfl) ?_; (with_reducible refine (laws_markWindowS.calls k (fun k_ => n8 ≤ k_ ∧ k_ < n9) _ t13 m44 m47 y48 w _ ?sideB ?sideO E15.out).mono ?_); (case sideB => exact (by (repeat (first | (with_reducible first | exact HB.out | apply below_alloc | apply pw_below_drewN | apply below_drew1 | refine below_set ?_ GE2.out | refine below_set ?_ GE8.out) | exact HB.out)))); (case sideO => exact (by ((with_reducible repeat (first | apply Kd.R_alloc | apply Kd.R_drewN | apply Kd.R_drew)); exact HO29.out))); rintro e w1063 ⟨rfl, ho_, hb2_, hk⟩; refine ⟨_, rfl, ?_⟩; have m0_ := Aside0.mk (blk_kept (g := gb2) (o := .cells #[.slice A0_0 l0_0.length c0_0] 55 (0, 0)) (by ((with_reducible repeat (first | refine blk_drewN ?_ _ | refine blk_drew ?_ | refine blk_alloc ?_ _)); exact BK2.out)) hk (fun h_ => by have h1_ := HI2.out; have q1_ := HN1.out; have q2_ := HN2.out; have q3_ := HN3.out; have q4_ := HN4.out; have q5_ := HN5.out; have q6_ := HN6.out; have q7_ := HN7.out; have q8_ := HN8.out; have q9_ := HN9.out; have q10_ := HN10.out; have q11_ := HN11.out; have q12_ := HN12.out; have q13_ := HN13.out; have q14_ := HN14.out; have q15_ := HN15.out; omega)); have m1_ := Aside0.mk (blk_kept (g := gb8) (o := .cells #[.slice Ao24 t9.length co24] 26 (0, 0)) (by ((with_reducible repeat (first | refine blk_drewN ?_ _ | refine blk_drew ?_ | refine blk_alloc ?_ _)); exact BK8.out)) hk (fun h_ => by have h1_ := HI8.out; have q1_ := HN1.out; have q2_ := HN2.out; have q3_ := HN3.out; have q4_ := HN4.out; have q5_ := HN5.out; have q6_ := HN6.out; have q7_ := HN7.out; have q8_ := HN8.out; have q9_ := HN9.out; have q10_ := HN10.out; have q11_ := HN11.out; have q12_ := HN12.out; have q13_ := HN13.out; have q14_ := HN14.out; have q15_ := HN15.out; omega)); have m2_ := Aside0.mk (Kd.S_kept (by ((with_reducible repeat (first | apply Kd.S_alloc | apply Kd.S_drewN | apply Kd.S_drew)); exact HO11.out)) hk (fun k_ h1_ h2_ => by have q1_ := HN1.out; have q2_ := HN2.out; have q3_ := HN3.out; have q4_ := HN4.out; have q5_ := HN5.out; have q6_ := HN6.out; have q7_ := HN7.out; have q8_ := HN8.out; have q9_ := HN9.out; have q10_ := HN10.out; have q11_ := HN11.out; have q12_ := HN12.out; have q13_ := HN13.out; have q14_ := HN14.out; have q15_ := HN15.out; omega)); have m3_ := Aside0.mk (Kd.R_kept (by ((with_reducible repeat (first | apply Kd.R_alloc | apply Kd.R_drewN | apply Kd.R_drew)); exact HO15.out)) hk (fun k_ h1_ h2_ => by have q1_ := HN1.out; have q2_ := HN2.out; have q3_ := HN3.out; have q4_ := HN4.out; have q5_ := HN5.out; have q6_ := HN6.out; have q7_ := HN7.out; have q8_ := HN8.out; have q9_ := HN9.out; have q10_ := HN10.out; have q11_ := HN11.out; have q12_ := HN12.out; have q13_ := HN13.out; have q14_ := HN14.out; have q15_ := HN15.out; omega)); have m4_ := Aside0.mk (Kd.V_kept (by ((with_reducible repeat (first | apply Kd.V_alloc | apply Kd.V_drewN | apply Kd.V_drew)); exact HO20.out)) hk (fun k_ h1_ h2_ => by have q1_ := HN1.out; have q2_ := HN2.out; have q3_ := HN3.out; have q4_ := HN4.out; have q5_ := HN5.out; have q6_ := HN6.out; have q7_ := HN7.out; have q8_ := HN8.out; have q9_ := HN9.out; have q10_ := HN10.out; have q11_ := HN11.out; have q12_ := HN12.out; have q13_ := HN13.out; have q14_ := HN14.out; have q15_ := HN15.out; omega)); have m5_ := Aside0.mk (Kd.S_kept (by ((with_reducible repeat (first | apply Kd.S_alloc | apply Kd.S_drewN | apply Kd.S_drew)); exact HO24.out)) hk (fun k_ h1_ h2_ => by have q1_ := HN1.out; have q2_ := HN2.out; have q3_ := HN3.out; have q4_ := HN4.out; have q5_ := HN5.out; have q6_ := HN6.out; have q7_ := HN7.out; have q8_ := HN8.out; have q9_ := HN9.out; have q10_ := HN10.out; have q11_ := HN11.out; have q12_ := HN12.out; have q13_ := HN13.out; have q14_ := HN14.out; have q15_ := HN15.out; omega)); have m6_ := Aside0.mk (Kd.R_kept (by ((with_reducible repeat (first | apply Kd.R_alloc | apply Kd.R_drewN | apply Kd.R_drew)); exact HO32.out)) hk (fun k_ h1_ h2_ => by have q1_ := HN1.out; have q2_ := HN2.out; have q3_ := HN3.out; have q4_ := HN4.out; have q5_ := HN5.out; have q6_ := HN6.out; have q7_ := HN7.out; have q8_ := HN8.out; have q9_ := HN9.out; have q10_ := HN10.out; have q11_ := HN11.out; have q12_ := HN12.out; have q13_ := HN13.out; have q14_ := HN14.out; have q15_ := HN15.out; omega)); have m7_ := Aside0.mk (Kd.S_kept (by ((with_reducible repeat (first | apply Kd.S_alloc | apply Kd.S_drewN | apply Kd.S_drew)); exact HO37.out)) hk (fun k_ h1_ h2_ => by have q1_ := HN1.out; have q2_ := HN2.out; have q3_ := HN3.out; have q4_ := HN4.out; have q5_ := HN5.out; have q6_ := HN6.out; have q7_ := HN7.out; have q8_ := HN8.out; have q9_ := HN9.out; have q10_ := HN10.out; have q11_ := HN11.out; have q12_ := HN12.out; have q13_ := HN13.out; have q14_ := HN14.out; have q15_ := HN15.out; omega)); have m8_ := Aside0.mk (Kd.R_kept (by ((with_reducible repeat (first | apply Kd.R_alloc | apply Kd.R_drewN | apply Kd.R_drew)); exact HO41.out)) hk (fun k_ h1_ h2_ => by have q1_ := HN1.out; have q2_ := HN2.out; have q3_ := HN3.out; have q4_ := HN4.out; have q5_ := HN5.out; have q6_ := HN6.out; have q7_ := HN7.out; have q8_ := HN8.out; have q9_ := HN9.out; have q10_ := HN10.out; have q11_ := HN11.out; have q12_ := HN12.out; have q13_ := HN13.out; have q14_ := HN14.out; have q15_ := HN15.out; omega)); have mO_ := Aside0.mk (show Kd.R k28 28 w1063 w.heap.size (fun k_ => n8 ≤ k_ ∧ k_ < n9) (.slice Ao29 t13.length co29) y48 from Kd.R_mono (Kd.R_tight rfl ho_) (fun k_ hk_ => HO29.out.1 k_ hk_.symm)); have mL_ := Aside0.mk (by (repeat (first | exact HZ.out | (with_reducible first | apply sz_alloc | apply sz_drewN | apply sz_drew | apply sz_set))) : n15 ≤ _); have mZ_ := Aside0.mk (Nat.le_trans mL_.out hk.1 : n15 ≤ w1063.heap.size); have mB_ := Aside0.mk hb2_; clear BK2 BK8 HO11 HO15 HO20 HO24 HO32 HO37 HO41 HB HZ HO29; have BK2 := m0_; have BK8 := m1_; have HO11 := m2_; have HO15 := m3_; have HO20 := m4_; have HO24 := m5_; have HO32 := m6_; have HO37 := m7_; have HO41 := m8_; have HO29 := mO_; have HB := mB_; have HZ := mZ_; clear m0_ m1_ m2_ m3_ m4_ m5_ m6_ m7_ m8_ mO_ mB_ mZ_ mL_; clear ho_ hb2_ hk) | ((with_reducible refine gate_callee (f := 40) rfl ?_); refine goesL_ (some 85) rfl rfl Tryd.func40 (by kernel_rfl) rfl #[.slice Ao32 g16.length co32, .int .i64 1] rfl (by (try simp only [List.map_toArray, List.map_cons, List.map_nil]); first | done | rfl) ?_; (with_reducible refine (laws_markIntS.calls k (fun k_ => n9 ≤ k_ ∧ k_ < n10) _ g16 1 m51 y52 w _ ?sideB ?sideO E17.out).mono ?_); (case sideB => exact (by (repeat (first | (with_reducible first | exact HB.out | apply below_alloc | apply pw_below_drewN | apply below_drew1 | refine below_set ?_ GE2.out | refine below_set ?_ GE8.out) | exact HB.out)))); (case sideO => exact (by ((with_reducible repeat (first | apply Kd.R_alloc | apply Kd.R_drewN | apply Kd.R_drew)); exact HO32.out))); rintro e w1069 ⟨rfl, ho_, hb2_, hk⟩; refine ⟨_, rfl, ?_⟩; have m0_ := Aside0.mk (blk_kept (g := gb2) (o := .cells #[.slice A0_0 l0_0.length c0_0] 55 (0, 0)) (by ((with_reducible repeat (first | refine blk_drewN ?_ _ | refine blk_drew ?_ | refine blk_alloc ?_ _)); exact BK2.out)) hk (fun h_ => by have h1_ := HI2.out; have q1_ := HN1.out; have q2_ := HN2.out; have q3_ := HN3.out; have q4_ := HN4.out; have q5_ := HN5.out; have q6_ := HN6.out; have q7_ := HN7.out; have q8_ := HN8.out; have q9_ := HN9.out; have q10_ := HN10.out; have q11_ := HN11.out; have q12_ := HN12.out; have q13_ := HN13.out; have q14_ := HN14.out; have q15_ := HN15.out; have q16_ := HN16.out; omega)); have m1_ := Aside0.mk (blk_kept (g := gb8) (o := .cells #[.slice Ao24 t9.length co24] 26 (0, 0)) (by ((with_reducible repeat (first | refine blk_drewN ?_ _ | refine blk_drew ?_ | refine blk_alloc ?_ _)); exact BK8.out)) hk (fun h_ => by have h1_ := HI8.out; have q1_ := HN1.out; have q2_ := HN2.out; have q3_ := HN3.out; have q4_ := HN4.out; have q5_ := HN5.out; have q6_ := HN6.out; have q7_ := HN7.out; have q8_ := HN8.out; have q9_ := HN9.out; have q10_ := HN10.out; have q11_ := HN11.out; have q12_ := HN12.out; have q13_ := HN13.out; have q14_ := HN14.out; have q15_ := HN15.out; have q16_ := HN16.out; omega)); have m2_ := Aside0.mk (Kd.S_kept (by ((with_reducible repeat (first | apply Kd.S_alloc | apply Kd.S_drewN | apply Kd.S_drew)); exact HO11.out)) hk (fun k_ h1_ h2_ => by have q1_ := HN1.out; have q2_ := HN2.out; have q3_ := HN3.out; have q4_ := HN4.out; have q5_ := HN5.out; have q6_ := HN6.out; have q7_ := HN7.out; have q8_ := HN8.out; have q9_ := HN9.out; have q10_ := HN10.out; have q11_ := HN11.out; have q12_ := HN12.out; have q13_ := HN13.out; have q14_ := HN14.out; have q15_ := HN15.out; have q16_ := HN16.out; omega)); have m3_ := Aside0.mk (Kd.R_kept (by ((with_reducible repeat (first | apply Kd.R_alloc | apply Kd.R_drewN | apply Kd.R_drew)); exact HO15.out)) hk (fun k_ h1_ h2_ => by have q1_ := HN1.out; have q2_ := HN2.out; have q3_ := HN3.out; have q4_ := HN4.out; have q5_ := HN5.out; have q6_ := HN6.out; have q7_ := HN7.out; have q8_ := HN8.out; have q9_ := HN9.out; have q10_ := HN10.out; have q11_ := HN11.out; have q12_ := HN12.out; have q13_ := HN13.out; have q14_ := HN14.out; have q15_ := HN15.out; have q16_ := HN16.out; omega)); have m4_ := Aside0.mk (Kd.V_kept (by ((with_reducible repeat (first | apply Kd.V_alloc | apply Kd.V_drewN | apply Kd.V_drew)); exact HO20.out)) hk (fun k_ h1_ h2_ => by have q1_ := HN1.out; have q2_ := HN2.out; have q3_ := HN3.out; have q4_ := HN4.out; have q5_ := HN5.out; have q6_ := HN6.out; have q7_ := HN7.out; have q8_ := HN8.out; have q9_ := HN9.out; have q10_ := HN10.out; have q11_ := HN11.out; have q12_ := HN12.out; have q13_ := HN13.out; have q14_ := HN14.out; have q15_ := HN15.out; have q16_ := HN16.out; omega)); have m5_ := Aside0.mk (Kd.S_kept (by ((with_reducible repeat (first | apply Kd.S_alloc | apply Kd.S_drewN | apply Kd.S_drew)); exact HO24.out)) hk (fun k_ h1_ h2_ => by have q1_ := HN1.out; have q2_ := HN2.out; have q3_ := HN3.out; have q4_ := HN4.out; have q5_ := HN5.out; have q6_ := HN6.out; have q7_ := HN7.out; have q8_ := HN8.out; have q9_ := HN9.out; have q10_ := HN10.out; have q11_ := HN11.out; have q12_ := HN12.out; have q13_ := HN13.out; have q14_ := HN14.out; have q15_ := HN15.out; have q16_ := HN16.out; omega)); have m6_ := Aside0.mk (Kd.R_kept (by ((with_reducible repeat (first | apply Kd.R_alloc | apply Kd.R_drewN | apply Kd.R_drew)); exact HO29.out)) hk (fun k_ h1_ h2_ => by have q1_ := HN1.out; have q2_ := HN2.out; have q3_ := HN3.out; have q4_ := HN4.out; have q5_ := HN5.out; have q6_ := HN6.out; have q7_ := HN7.out; have q8_ := HN8.out; have q9_ := HN9.out; have q10_ := HN10.out; have q11_ := HN11.out; have q12_ := HN12.out; have q13_ := HN13.out; have q14_ := HN14.out; have q15_ := HN15.out; have q16_ := HN16.out; omega)); have m7_ := Aside0.mk (Kd.S_kept (by ((with_reducible repeat (first | apply Kd.S_alloc | apply Kd.S_drewN | apply Kd.S_drew)); exact HO37.out)) hk (fun k_ h1_ h2_ => by have q1_ := HN1.out; have q2_ := HN2.out; have q3_ := HN3.out; have q4_ := HN4.out; have q5_ := HN5.out; have q6_ := HN6.out; have q7_ := HN7.out; have q8_ := HN8.out; have q9_ := HN9.out; have q10_ := HN10.out; have q11_ := HN11.out; have q12_ := HN12.out; have q13_ := HN13.out; have q14_ := HN14.out; have q15_ := HN15.out; have q16_ := HN16.out; omega)); have m8_ := Aside0.mk (Kd.R_kept (by ((with_reducible repeat (first | apply Kd.R_alloc | apply Kd.R_drewN | apply Kd.R_drew)); exact HO41.out)) hk (fun k_ h1_ h2_ => by have q1_ := HN1.out; have q2_ := HN2.out; have q3_ := HN3.out; have q4_ := HN4.out; have q5_ := HN5.out; have q6_ := HN6.out; have q7_ := HN7.out; have q8_ := HN8.out; have q9_ := HN9.out; have q10_ := HN10.out; have q11_ := HN11.out; have q12_ := HN12.out; have q13_ := HN13.out; have q14_ := HN14.out; have q15_ := HN15.out; have q16_ := HN16.out; omega)); have mO_ := Aside0.mk (show Kd.R (Kd.int .i64) 3 w1069 w.heap.size (fun k_ => n9 ≤ k_ ∧ k_ < n10) (.slice Ao32 g16.length co32) y52 from Kd.R_mono (Kd.R_tight rfl ho_) (fun k_ hk_ => HO32.out.1 k_ hk_.symm)); have mL_ := Aside0.mk (by (repeat (first | exact HZ.out | (with_reducible first | apply sz_alloc | apply sz_drewN | apply sz_drew | apply sz_set))) : n16 ≤ _); have mZ_ := Aside0.mk (Nat.le_trans mL_.out hk.1 : n16 ≤ w1069.heap.size); have mB_ := Aside0.mk hb2_; clear BK2 BK8 HO11 HO15 HO20 HO24 HO29 HO37 HO41 HB HZ HO32; have BK2 := m0_; have BK8 := m1_; have HO11 := m2_; have HO15 := m3_; have HO20 := m4_; have HO24 := m5_; have HO29 := m6_; have HO37 := m7_; have HO41 := m8_; have HO32 := mO_; have HB := mB_; have HZ := mZ_; clear m0_ m1_ m2_ m3_ m4_ m5_ m6_ m7_ m8_ mO_ mB_ mZ_ mL_; clear ho_ hb2_ hk) | ((with_reducible refine gate_callee (f := 41) rfl ?_); refine goesL_ (some 88) rfl rfl Tryd.func41 (by kernel_rfl) rfl #[.slice Ao32 y52.length co32, .int .i64 1] rfl (by (try simp only [List.map_toArray, List.map_cons, List.map_nil]); first | done | (rw [show g16.length = y52.length from (Kd.R_reads' HO32.out).1] <;> rfl) | rfl) ?_; (with_reducible refine (laws_heldIntS.calls k _ _ y52 1 m51 _ ?sr0 ?sc0 E18.out).mono ?_); (case sr0 => repeat (first | exact (Kd.R_reads' HO32.out).2.2 | (with_reducible refine Kd.C_alloc ?_ _) | (with_reducible refine Kd.C_drewN ?_ _) | (with_reducible refine Kd.C_drew ?_))); (case sc0 => first | exact (Kd.R_reads' HO32.out).2.1 | exact Nat.le_trans (Nat.le_of_eq (Kd.R_reads' HO32.out).1.symm) (Kd.R_reads' HO32.out).2.1); rintro e w1071 ⟨rfl, hd_⟩; have hb := hd_.below; clear hd_; refine ⟨_, rfl, ?_⟩; have m0_ := Aside0.mk (blk_below (g := gb2) (o := .cells #[.slice A0_0 l0_0.length c0_0] 55 (0, 0)) (by ((with_reducible repeat (first | refine blk_drewN ?_ _ | refine blk_drew ?_ | refine blk_alloc ?_ _)); exact BK2.out)) hb); have m1_ := Aside0.mk (blk_below (g := gb8) (o := .cells #[.slice Ao24 t9.length co24] 26 (0, 0)) (by ((with_reducible repeat (first | refine blk_drewN ?_ _ | refine blk_drew ?_ | refine blk_alloc ?_ _)); exact BK8.out)) hb); have m2_ := Aside0.mk (Kd.S_below (by ((with_reducible repeat (first | apply Kd.S_alloc | apply Kd.S_drewN | apply Kd.S_drew)); exact HO11.out)) hb); have m3_ := Aside0.mk (Kd.R_below (by ((with_reducible repeat (first | apply Kd.R_alloc | apply Kd.R_drewN | apply Kd.R_drew)); exact HO15.out)) hb); have m4_ := Aside0.mk (Kd.V_below (by ((with_reducible repeat (first | apply Kd.V_alloc | apply Kd.V_drewN | apply Kd.V_drew)); exact HO20.out)) hb); have m5_ := Aside0.mk (Kd.S_below (by ((with_reducible repeat (first | apply Kd.S_alloc | apply Kd.S_drewN | apply Kd.S_drew)); exact HO24.out)) hb); have m6_ := Aside0.mk (Kd.R_below (by ((with_reducible repeat (first | apply Kd.R_alloc | apply Kd.R_drewN | apply Kd.R_drew)); exact HO29.out)) hb); have m7_ := Aside0.mk (Kd.R_below (by ((with_reducible repeat (first | apply Kd.R_alloc | apply Kd.R_drewN | apply Kd.R_drew)); exact HO32.out)) hb); have m8_ := Aside0.mk (Kd.S_below (by ((with_reducible repeat (first | apply Kd.S_alloc | apply Kd.S_drewN | apply Kd.S_drew)); exact HO37.out)) hb); have m9_ := Aside0.mk (Kd.R_below (by ((with_reducible repeat (first | apply Kd.R_alloc | apply Kd.R_drewN | apply Kd.R_drew)); exact HO41.out)) hb); have mB_ := Aside0.mk (below_step (by (repeat (first | (with_reducible first | exact HB.out | apply below_alloc | apply pw_below_drewN | apply below_drew1 | refine below_set ?_ GE2.out | refine below_set ?_ GE8.out) | exact HB.out))) hb); have mL_ := Aside0.mk (by (repeat (first | exact HZ.out | (with_reducible first | apply sz_alloc | apply sz_drewN | apply sz_drew | apply sz_set))) : n16 ≤ _); obtain ⟨n17, hn_⟩ : ∃ n_, n_ = w1071.heap.size := ⟨_, rfl⟩; have mN_ := Aside0.mk (by rw [hn_]; exact Nat.le_trans mL_.out hb.size : n16 ≤ n17); have mZ_ := Aside0.mk (Nat.le_of_eq hn_ : n17 ≤ w1071.heap.size); clear BK2 BK8 HO11 HO15 HO20 HO24 HO29 HO32 HO37 HO41 HB HZ; have BK2 := m0_; have BK8 := m1_; have HO11 := m2_; have HO15 := m3_; have HO20 := m4_; have HO24 := m5_; have HO29 := m6_; have HO32 := m7_; have HO37 := m8_; have HO41 := m9_; have HB := mB_; have HZ := mZ_; have HN17 := mN_; clear m0_ m1_ m2_ m3_ m4_ m5_ m6_ m7_ m8_ m9_ mB_ mN_ mZ_ mL_; (try clear hn_); clear hb; have hc55_0 := (blk_cell BK2.out 0).trans (show (#[.slice A0_0 l0_0.length c0_0] : Array Value)[0]? = some (.slice A0_0 l0_0.length c0_0) from rfl); have hf55_0 := blk_frozen BK2.out 0) | ((with_reducible refine gate_callee (f := 33) rfl ?_); refine goesL_ (some 96) rfl rfl Tryd.func33 (by kernel_rfl) rfl #[.agg #[.slice A0_0 l0_0.length c0_0]] rfl (by (try simp only [List.map_toArray, List.map_cons, List.map_nil]); first | done | rfl) ?_; (with_reducible refine (laws_toMemory.calls k _ _ l0_0 t9 _ ?sr0 ?sc0 E3.out).mono ?_); (case sr0 => exact Kd.C_below HR0_0.out (by (repeat (first | (with_reducible first | exact HB.out | apply below_alloc | apply pw_below_drewN | apply below_drew1 | refine below_set ?_ GE2.out | refine below_set ?_ GE8.out) | exact HB.out)))); (case sc0 => exact HC0_0.out); rintro e w1075 ⟨v19_0, rfl, ho0_, hb⟩; refine ⟨_, rfl, ?_⟩; have m0_ := Aside0.mk (blk_below (g := gb2) (o := .cells #[.slice A0_0 l0_0.length c0_0] 55 (0, 0)) (by ((with_reducible repeat (first | refine blk_drewN ?_ _ | refine blk_drew ?_ | refine blk_alloc ?_ _)); exact BK2.out)) hb); have m1_ := Aside0.mk (blk_below (g := gb8) (o := .cells #[.slice Ao24 t9.length co24] 26 (0, 0)) (by ((with_reducible repeat (first | refine blk_drewN ?_ _ | refine blk_drew ?_ | refine blk_alloc ?_ _)); exact BK8.out)) hb); have m2_ := Aside0.mk (Kd.S_below (by ((with_reducible repeat (first | apply Kd.S_alloc | apply Kd.S_drewN | apply Kd.S_drew)); exact HO11.out)) hb); have m3_ := Aside0.mk (Kd.R_below (by ((with_reducible repeat (first | apply Kd.R_alloc | apply Kd.R_drewN | apply Kd.R_drew)); exact HO15.out)) hb); have m4_ := Aside0.mk (Kd.V_below (by ((with_reducible repeat (first | apply Kd.V_alloc | apply Kd.V_drewN | apply Kd.V_drew)); exact HO20.out)) hb); have m5_ := Aside0.mk (Kd.S_below (by ((with_reducible repeat (first | apply Kd.S_alloc | apply Kd.S_drewN | apply Kd.S_drew)); exact HO24.out)) hb); have m6_ := Aside0.mk (Kd.R_below (by ((with_reducible repeat (first | apply Kd.R_alloc | apply Kd.R_drewN | apply Kd.R_drew)); exact HO29.out)) hb); have m7_ := Aside0.mk (Kd.R_below (by ((with_reducible repeat (first | apply Kd.R_alloc | apply Kd.R_drewN | apply Kd.R_drew)); exact HO32.out)) hb); have m8_ := Aside0.mk (Kd.S_below (by ((with_reducible repeat (first | apply Kd.S_alloc | apply Kd.S_drewN | apply Kd.S_drew)); exact HO37.out)) hb); have m9_ := Aside0.mk (Kd.R_below (by ((with_reducible repeat (first | apply Kd.R_alloc | apply Kd.R_drewN | apply Kd.R_drew)); exact HO41.out)) hb); have mB_ := Aside0.mk (below_step (by (repeat (first | (with_reducible first | exact HB.out | apply below_alloc | apply pw_below_drewN | apply below_drew1 | refine below_set ?_ GE2.out | refine below_set ?_ GE8.out) | exact HB.out))) hb); have mL_ := Aside0.mk (by (repeat (first | exact HZ.out | (with_reducible first | apply sz_alloc | apply sz_drewN | apply sz_drew | apply sz_set))) : n17 ≤ _); obtain ⟨n18, hn_⟩ : ∃ n_, n_ = w1075.heap.size := ⟨_, rfl⟩; have mN_ := Aside0.mk (by rw [hn_]; exact Nat.le_trans mL_.out hb.size : n17 ≤ n18); have mZ_ := Aside0.mk (Nat.le_of_eq hn_ : n18 ≤ w1075.heap.size); have xHO58_ := Aside0.mk (show Kd.S (Kd.slice 5 (Kd.int .u8)) 22 w1075 w.heap.size (fun k_ => n17 ≤ k_ ∧ k_ < n18) _ t9 from Kd.S_mono (Kd.S_lower (Kd.S_bound ho0_) (below_size (by (repeat (first | (with_reducible first | exact HB.out | apply below_alloc | apply pw_below_drewN | apply below_drew1 | refine below_set ?_ GE2.out | refine below_set ?_ GE8.out) | exact HB.out))))) (fun k_ hk_ => ⟨Nat.le_trans mL_.out hk_.2.1, by rw [hn_]; exact hk_.2.2.1⟩)); clear BK2 BK8 HO11 HO15 HO20 HO24 HO29 HO32 HO37 HO41 HB HZ; have BK2 := m0_; have BK8 := m1_; have HO11 := m2_; have HO15 := m3_; have HO20 := m4_; have HO24 := m5_; have HO29 := m6_; have HO32 := m7_; have HO37 := m8_; have HO41 := m9_; have HB := mB_; have HZ := mZ_; have HN18 := mN_; have HO58 := xHO58_; clear m0_ m1_ m2_ m3_ m4_ m5_ m6_ m7_ m8_ m9_ mB_ mN_ mZ_ mL_ xHO58_; (try clear hn_); clear hb ho0_; obtain ⟨Ao58, co58, eo_⟩ := Kd.S_slice HO58.out; subst eo_) | ((with_reducible refine gate_callee (f := 34) rfl ?_); refine goesL_ (some 98) rfl rfl Tryd.func34 (by kernel_rfl) rfl #[.slice A1 l1.length c1] rfl (by (try simp only [List.map_toArray, List.map_cons, List.map_nil]); first | done | rfl) ?_; (with_reducible refine (laws_toWindowS.calls k _ _ l1 t13 _ ?sr0 ?sc0 E4.out).mono ?_); (case sr0 => exact Kd.C_below HR1.out (by (repeat (first | (with_reducible first | exact HB.out | apply below_alloc | apply pw_below_drewN | apply below_drew1 | refine below_set ?_ GE2.out | refine below_set ?_ GE8.out) | exact HB.out)))); (case sc0 => exact HC1.out); rintro e w1079 ⟨v20_0, rfl, ho0_, hb⟩; refine ⟨_, rfl, ?_⟩; have m0_ := Aside0.mk (blk_below (g := gb2) (o := .cells #[.slice A0_0 l0_0.length c0_0] 55 (0, 0)) (by ((with_reducible repeat (first | refine blk_drewN ?_ _ | refine blk_drew ?_ | refine blk_alloc ?_ _)); exact BK2.out)) hb); have m1_ := Aside0.mk (blk_below (g := gb8) (o := .cells #[.slice Ao24 t9.length co24] 26 (0, 0)) (by ((with_reducible repeat (first | refine blk_drewN ?_ _ | refine blk_drew ?_ | refine blk_alloc ?_ _)); exact BK8.out)) hb); have m2_ := Aside0.mk (Kd.S_below (by ((with_reducible repeat (first | apply Kd.S_alloc | apply Kd.S_drewN | apply Kd.S_drew)); exact HO11.out)) hb); have m3_ := Aside0.mk (Kd.R_below (by ((with_reducible repeat (first | apply Kd.R_alloc | apply Kd.R_drewN | apply Kd.R_drew)); exact HO15.out)) hb); have m4_ := Aside0.mk (Kd.V_below (by ((with_reducible repeat (first | apply Kd.V_alloc | apply Kd.V_drewN | apply Kd.V_drew)); exact HO20.out)) hb); have m5_ := Aside0.mk (Kd.S_below (by ((with_reducible repeat (first | apply Kd.S_alloc | apply Kd.S_drewN | apply Kd.S_drew)); exact HO24.out)) hb); have m6_ := Aside0.mk (Kd.R_below (by ((with_reducible repeat (first | apply Kd.R_alloc | apply Kd.R_drewN | apply Kd.R_drew)); exact HO29.out)) hb); have m7_ := Aside0.mk (Kd.R_below (by ((with_reducible repeat (first | apply Kd.R_alloc | apply Kd.R_drewN | apply Kd.R_drew)); exact HO32.out)) hb); have m8_ := Aside0.mk (Kd.S_below (by ((with_reducible repeat (first | apply Kd.S_alloc | apply Kd.S_drewN | apply Kd.S_drew)); exact HO37.out)) hb); have m9_ := Aside0.mk (Kd.R_below (by ((with_reducible repeat (first | apply Kd.R_alloc | apply Kd.R_drewN | apply Kd.R_drew)); exact HO41.out)) hb); have m10_ := Aside0.mk (Kd.S_below (by ((with_reducible repeat (first | apply Kd.S_alloc | apply Kd.S_drewN | apply Kd.S_drew)); exact HO58.out)) hb); have mB_ := Aside0.mk (below_step (by (repeat (first | (with_reducible first | exact HB.out | apply below_alloc | apply pw_below_drewN | apply below_drew1 | refine below_set ?_ GE2.out | refine below_set ?_ GE8.out) | exact HB.out))) hb); have mL_ := Aside0.mk (by (repeat (first | exact HZ.out | (with_reducible first | apply sz_alloc | apply sz_drewN | apply sz_drew | apply sz_set))) : n18 ≤ _); obtain ⟨n19, hn_⟩ : ∃ n_, n_ = w1079.heap.size := ⟨_, rfl⟩; have mN_ := Aside0.mk (by rw [hn_]; exact Nat.le_trans mL_.out hb.size : n18 ≤ n19); have mZ_ := Aside0.mk (Nat.le_of_eq hn_ : n19 ≤ w1079.heap.size); have xHO61_ := Aside0.mk (show Kd.R k28 28 w1079 w.heap.size (fun k_ => n18 ≤ k_ ∧ k_ < n19) _ t13 from Kd.R_mono (Kd.R_lower (Kd.R_bound ho0_) (below_size (by (repeat (first | (with_reducible first | exact HB.out | apply below_alloc | apply pw_below_drewN | apply below_drew1 | refine below_set ?_ GE2.out | refine below_set ?_ GE8.out) | exact HB.out))))) (fun k_ hk_ => ⟨Nat.le_trans mL_.out hk_.2.1, by rw [hn_]; exact hk_.2.2.1⟩)); clear BK2 BK8 HO11 HO15 HO20 HO24 HO29 HO32 HO37 HO41 HO58 HB HZ; have BK2 := m0_; have BK8 := m1_; have HO11 := m2_; have HO15 := m3_; have HO20 := m4_; have HO24 := m5_; have HO29 := m6_; have HO32 := m7_; have HO37 := m8_; have HO41 := m9_; have HO58 := m10_; have HB := mB_; have HZ := mZ_; have HN19 := mN_; have HO61 := xHO61_; clear m0_ m1_ m2_ m3_ m4_ m5_ m6_ m7_ m8_ m9_ m10_ mB_ mN_ mZ_ mL_ xHO61_; (try clear hn_); clear hb ho0_; obtain ⟨Ao61, co61, eo_⟩ := Kd.R_slice HO61.out; subst eo_) | ((with_reducible refine gate_callee (f := 22) rfl ?_); refine goesL_ (some 99) rfl rfl Tryd.func22 (by kernel_rfl) rfl #[.agg #[.slice Ao58 t9.length co58], .slice Ao61 t13.length co61] rfl (by (try simp only [List.map_toArray, List.map_cons, List.map_nil]); first | done | rfl) ?_; (with_reducible refine (impl_MostApart.calls k _ _ t9 _ _ t13 g16 ok17 _ ?sr0 ?sc0 ?sr1 ?sc1 E8.out).mono ?_); (case sr0 => repeat (first | exact (Kd.S_reads' HO58.out).2.2 | (with_reducible refine Kd.C_alloc ?_ _) | (with_reducible refine Kd.C_drewN ?_ _) | (with_reducible refine Kd.C_drew ?_))); (case sc0 => first | exact (Kd.S_reads' HO58.out).2.1 | exact Nat.le_trans (Nat.le_of_eq (Kd.S_reads' HO58.out).1.symm) (Kd.S_reads' HO58.out).2.1); (case sr1 => repeat (first | exact (Kd.R_reads' HO61.out).2.2 | (with_reducible refine Kd.C_alloc ?_ _) | (with_reducible refine Kd.C_drewN ?_ _) | (with_reducible refine Kd.C_drew ?_))); (case sc1 => first | exact (Kd.R_reads' HO61.out).2.1 | exact Nat.le_trans (Nat.le_of_eq (Kd.R_reads' HO61.out).1.symm) (Kd.R_reads' HO61.out).2.1); rintro e w1082 ⟨v21_0, rfl, ho0_, hb⟩; refine ⟨_, rfl, ?_⟩; have m0_ := Aside0.mk (blk_below (g := gb2) (o := .cells #[.slice A0_0 l0_0.length c0_0] 55 (0, 0)) (by ((with_reducible repeat (first | refine blk_drewN ?_ _ | refine blk_drew ?_ | refine blk_alloc ?_ _)); exact BK2.out)) hb); have m1_ := Aside0.mk (blk_below (g := gb8) (o := .cells #[.slice Ao24 t9.length co24] 26 (0, 0)) (by ((with_reducible repeat (first | refine blk_drewN ?_ _ | refine blk_drew ?_ | refine blk_alloc ?_ _)); exact BK8.out)) hb); have m2_ := Aside0.mk (Kd.S_below (by ((with_reducible repeat (first | apply Kd.S_alloc | apply Kd.S_drewN | apply Kd.S_drew)); exact HO11.out)) hb); have m3_ := Aside0.mk (Kd.R_below (by ((with_reducible repeat (first | apply Kd.R_alloc | apply Kd.R_drewN | apply Kd.R_drew)); exact HO15.out)) hb); have m4_ := Aside0.mk (Kd.V_below (by ((with_reducible repeat (first | apply Kd.V_alloc | apply Kd.V_drewN | apply Kd.V_drew)); exact HO20.out)) hb); have m5_ := Aside0.mk (Kd.S_below (by ((with_reducible repeat (first | apply Kd.S_alloc | apply Kd.S_drewN | apply Kd.S_drew)); exact HO24.out)) hb); have m6_ := Aside0.mk (Kd.R_below (by ((with_reducible repeat (first | apply Kd.R_alloc | apply Kd.R_drewN | apply Kd.R_drew)); exact HO29.out)) hb); have m7_ := Aside0.mk (Kd.R_below (by ((with_reducible repeat (first | apply Kd.R_alloc | apply Kd.R_drewN | apply Kd.R_drew)); exact HO32.out)) hb); have m8_ := Aside0.mk (Kd.S_below (by ((with_reducible repeat (first | apply Kd.S_alloc | apply Kd.S_drewN | apply Kd.S_drew)); exact HO37.out)) hb); have m9_ := Aside0.mk (Kd.R_below (by ((with_reducible repeat (first | apply Kd.R_alloc | apply Kd.R_drewN | apply Kd.R_drew)); exact HO41.out)) hb); have m10_ := Aside0.mk (Kd.S_below (by ((with_reducible repeat (first | apply Kd.S_alloc | apply Kd.S_drewN | apply Kd.S_drew)); exact HO58.out)) hb); have m11_ := Aside0.mk (Kd.R_below (by ((with_reducible repeat (first | apply Kd.R_alloc | apply Kd.R_drewN | apply Kd.R_drew)); exact HO61.out)) hb); have mB_ := Aside0.mk (below_step (by (repeat (first | (with_reducible first | exact HB.out | apply below_alloc | apply pw_below_drewN | apply below_drew1 | refine below_set ?_ GE2.out | refine below_set ?_ GE8.out) | exact HB.out))) hb); have mL_ := Aside0.mk (by (repeat (first | exact HZ.out | (with_reducible first | apply sz_alloc | apply sz_drewN | apply sz_drew | apply sz_set))) : n19 ≤ _); obtain ⟨n20, hn_⟩ : ∃ n_, n_ = w1082.heap.size := ⟨_, rfl⟩; have mN_ := Aside0.mk (by rw [hn_]; exact Nat.le_trans mL_.out hb.size : n19 ≤ n20); have mZ_ := Aside0.mk (Nat.le_of_eq hn_ : n20 ≤ w1082.heap.size); have xHO63_ := Aside0.mk (show Kd.R (Kd.int .i64) 3 w1082 w.heap.size (fun k_ => n19 ≤ k_ ∧ k_ < n20) _ g16 from Kd.R_mono (Kd.R_lower (Kd.R_bound ho0_) (below_size (by (repeat (first | (with_reducible first | exact HB.out | apply below_alloc | apply pw_below_drewN | apply below_drew1 | refine below_set ?_ GE2.out | refine below_set ?_ GE8.out) | exact HB.out))))) (fun k_ hk_ => ⟨Nat.le_trans mL_.out hk_.2.1, by rw [hn_]; exact hk_.2.2.1⟩)); clear BK2 BK8 HO11 HO15 HO20 HO24 HO29 HO32 HO37 HO41 HO58 HO61 HB HZ; have BK2 := m0_; have BK8 := m1_; have HO11 := m2_; have HO15 := m3_; have HO20 := m4_; have HO24 := m5_; have HO29 := m6_; have HO32 := m7_; have HO37 := m8_; have HO41 := m9_; have HO58 := m10_; have HO61 := m11_; have HB := mB_; have HZ := mZ_; have HN20 := mN_; have HO63 := xHO63_; clear m0_ m1_ m2_ m3_ m4_ m5_ m6_ m7_ m8_ m9_ m10_ m11_ mB_ mN_ mZ_ mL_ xHO63_; (try clear hn_); clear hb ho0_; obtain ⟨Ao63, co63, eo_⟩ := Kd.R_slice HO63.out; subst eo_) | ((with_reducible refine gate_callee (f := 35) rfl ?_); refine goesL_ (some 104) rfl rfl Tryd.func35 (by kernel_rfl) rfl #[.slice Ao63 g16.length co63, .slice Ao20 s18.length co20] rfl (by (try simp only [List.map_toArray, List.map_cons, List.map_nil]); first | done | rfl) ?_; (with_reducible refine (laws_eqIntS.calls k _ _ g16 _ _ s18 true _ ?sr0 ?sc0 ?sr1 ?sc1 E9.out).mono ?_); (case sr0 => repeat (first | exact (Kd.R_reads' HO63.out).2.2 | (with_reducible refine Kd.C_alloc ?_ _) | (with_reducible refine Kd.C_drewN ?_ _) | (with_reducible refine Kd.C_drew ?_))); (case sc0 => first | exact (Kd.R_reads' HO63.out).2.1 | exact Nat.le_trans (Nat.le_of_eq (Kd.R_reads' HO63.out).1.symm) (Kd.R_reads' HO63.out).2.1); (case sr1 => repeat (first | exact (Kd.V_reads' HO20.out).2.2 | (with_reducible refine Kd.C_alloc ?_ _) | (with_reducible refine Kd.C_drewN ?_ _) | (with_reducible refine Kd.C_drew ?_))); (case sc1 => first | exact (Kd.V_reads' HO20.out).2.1 | exact Nat.le_trans (Nat.le_of_eq (Kd.V_reads' HO20.out).1.symm) (Kd.V_reads' HO20.out).2.1); rintro e w1085 ⟨rfl, hd_⟩; have hb := hd_.below; clear hd_; refine ⟨_, rfl, ?_⟩; have m0_ := Aside0.mk (blk_below (g := gb2) (o := .cells #[.slice A0_0 l0_0.length c0_0] 55 (0, 0)) (by ((with_reducible repeat (first | refine blk_drewN ?_ _ | refine blk_drew ?_ | refine blk_alloc ?_ _)); exact BK2.out)) hb); have m1_ := Aside0.mk (blk_below (g := gb8) (o := .cells #[.slice Ao24 t9.length co24] 26 (0, 0)) (by ((with_reducible repeat (first | refine blk_drewN ?_ _ | refine blk_drew ?_ | refine blk_alloc ?_ _)); exact BK8.out)) hb); have m2_ := Aside0.mk (Kd.S_below (by ((with_reducible repeat (first | apply Kd.S_alloc | apply Kd.S_drewN | apply Kd.S_drew)); exact HO11.out)) hb); have m3_ := Aside0.mk (Kd.R_below (by ((with_reducible repeat (first | apply Kd.R_alloc | apply Kd.R_drewN | apply Kd.R_drew)); exact HO15.out)) hb); have m4_ := Aside0.mk (Kd.V_below (by ((with_reducible repeat (first | apply Kd.V_alloc | apply Kd.V_drewN | apply Kd.V_drew)); exact HO20.out)) hb); have m5_ := Aside0.mk (Kd.S_below (by ((with_reducible repeat (first | apply Kd.S_alloc | apply Kd.S_drewN | apply Kd.S_drew)); exact HO24.out)) hb); have m6_ := Aside0.mk (Kd.R_below (by ((with_reducible repeat (first | apply Kd.R_alloc | apply Kd.R_drewN | apply Kd.R_drew)); exact HO29.out)) hb); have m7_ := Aside0.mk (Kd.R_below (by ((with_reducible repeat (first | apply Kd.R_alloc | apply Kd.R_drewN | apply Kd.R_drew)); exact HO32.out)) hb); have m8_ := Aside0.mk (Kd.S_below (by ((with_reducible repeat (first | apply Kd.S_alloc | apply Kd.S_drewN | apply Kd.S_drew)); exact HO37.out)) hb); have m9_ := Aside0.mk (Kd.R_below (by ((with_reducible repeat (first | apply Kd.R_alloc | apply Kd.R_drewN | apply Kd.R_drew)); exact HO41.out)) hb); have m10_ := Aside0.mk (Kd.S_below (by ((with_reducible repeat (first | apply Kd.S_alloc | apply Kd.S_drewN | apply Kd.S_drew)); exact HO58.out)) hb); have m11_ := Aside0.mk (Kd.R_below (by ((with_reducible repeat (first | apply Kd.R_alloc | apply Kd.R_drewN | apply Kd.R_drew)); exact HO61.out)) hb); have m12_ := Aside0.mk (Kd.R_below (by ((with_reducible repeat (first | apply Kd.R_alloc | apply Kd.R_drewN | apply Kd.R_drew)); exact HO63.out)) hb); have mB_ := Aside0.mk (below_step (by (repeat (first | (with_reducible first | exact HB.out | apply below_alloc | apply pw_below_drewN | apply below_drew1 | refine below_set ?_ GE2.out | refine below_set ?_ GE8.out) | exact HB.out))) hb); have mL_ := Aside0.mk (by (repeat (first | exact HZ.out | (with_reducible first | apply sz_alloc | apply sz_drewN | apply sz_drew | apply sz_set))) : n20 ≤ _); obtain ⟨n21, hn_⟩ : ∃ n_, n_ = w1085.heap.size := ⟨_, rfl⟩; have mN_ := Aside0.mk (by rw [hn_]; exact Nat.le_trans mL_.out hb.size : n20 ≤ n21); have mZ_ := Aside0.mk (Nat.le_of_eq hn_ : n21 ≤ w1085.heap.size); clear BK2 BK8 HO11 HO15 HO20 HO24 HO29 HO32 HO37 HO41 HO58 HO61 HO63 HB HZ; have BK2 := m0_; have BK8 := m1_; have HO11 := m2_; have HO15 := m3_; have HO20 := m4_; have HO24 := m5_; have HO29 := m6_; have HO32 := m7_; have HO37 := m8_; have HO41 := m9_; have HO58 := m10_; have HO61 := m11_; have HO63 := m12_; have HB := mB_; have HZ := mZ_; have HN21 := mN_; clear m0_ m1_ m2_ m3_ m4_ m5_ m6_ m7_ m8_ m9_ m10_ m11_ m12_ mB_ mN_ mZ_ mL_; (try clear hn_); clear hb) | ((with_reducible refine gate_callee (f := 41) rfl ?_); refine goesL_ (some 113) rfl rfl Tryd.func41 (by kernel_rfl) rfl #[.slice Ao32 y52.length co32, .int .i64 1] rfl (by (try simp only [List.map_toArray, List.map_cons, List.map_nil]); first | done | (rw [show g16.length = y52.length from (Kd.R_reads' HO32.out).1] <;> rfl) | rfl) ?_; (with_reducible refine (laws_heldIntS.calls k _ _ y52 1 m51 _ ?sr0 ?sc0 E18.out).mono ?_); (case sr0 => repeat (first | exact (Kd.R_reads' HO32.out).2.2 | (with_reducible refine Kd.C_alloc ?_ _) | (with_reducible refine Kd.C_drewN ?_ _) | (with_reducible refine Kd.C_drew ?_))); (case sc0 => first | exact (Kd.R_reads' HO32.out).2.1 | exact Nat.le_trans (Nat.le_of_eq (Kd.R_reads' HO32.out).1.symm) (Kd.R_reads' HO32.out).2.1); rintro e w1087 ⟨rfl, hd_⟩; have hb := hd_.below; clear hd_; refine ⟨_, rfl, ?_⟩; have m0_ := Aside0.mk (blk_below (g := gb2) (o := .cells #[.slice A0_0 l0_0.length c0_0] 55 (0, 0)) (by ((with_reducible repeat (first | refine blk_drewN ?_ _ | refine blk_drew ?_ | refine blk_alloc ?_ _)); exact BK2.out)) hb); have m1_ := Aside0.mk (blk_below (g := gb8) (o := .cells #[.slice Ao24 t9.length co24] 26 (0, 0)) (by ((with_reducible repeat (first | refine blk_drewN ?_ _ | refine blk_drew ?_ | refine blk_alloc ?_ _)); exact BK8.out)) hb); have m2_ := Aside0.mk (Kd.S_below (by ((with_reducible repeat (first | apply Kd.S_alloc | apply Kd.S_drewN | apply Kd.S_drew)); exact HO11.out)) hb); have m3_ := Aside0.mk (Kd.R_below (by ((with_reducible repeat (first | apply Kd.R_alloc | apply Kd.R_drewN | apply Kd.R_drew)); exact HO15.out)) hb); have m4_ := Aside0.mk (Kd.V_below (by ((with_reducible repeat (first | apply Kd.V_alloc | apply Kd.V_drewN | apply Kd.V_drew)); exact HO20.out)) hb); have m5_ := Aside0.mk (Kd.S_below (by ((with_reducible repeat (first | apply Kd.S_alloc | apply Kd.S_drewN | apply Kd.S_drew)); exact HO24.out)) hb); have m6_ := Aside0.mk (Kd.R_below (by ((with_reducible repeat (first | apply Kd.R_alloc | apply Kd.R_drewN | apply Kd.R_drew)); exact HO29.out)) hb); have m7_ := Aside0.mk (Kd.R_below (by ((with_reducible repeat (first | apply Kd.R_alloc | apply Kd.R_drewN | apply Kd.R_drew)); exact HO32.out)) hb); have m8_ := Aside0.mk (Kd.S_below (by ((with_reducible repeat (first | apply Kd.S_alloc | apply Kd.S_drewN | apply Kd.S_drew)); exact HO37.out)) hb); have m9_ := Aside0.mk (Kd.R_below (by ((with_reducible repeat (first | apply Kd.R_alloc | apply Kd.R_drewN | apply Kd.R_drew)); exact HO41.out)) hb); have m10_ := Aside0.mk (Kd.S_below (by ((with_reducible repeat (first | apply Kd.S_alloc | apply Kd.S_drewN | apply Kd.S_drew)); exact HO58.out)) hb); have m11_ := Aside0.mk (Kd.R_below (by ((with_reducible repeat (first | apply Kd.R_alloc | apply Kd.R_drewN | apply Kd.R_drew)); exact HO61.out)) hb); have m12_ := Aside0.mk (Kd.R_below (by ((with_reducible repeat (first | apply Kd.R_alloc | apply Kd.R_drewN | apply Kd.R_drew)); exact HO63.out)) hb); have mB_ := Aside0.mk (below_step (by (repeat (first | (with_reducible first | exact HB.out | apply below_alloc | apply pw_below_drewN | apply below_drew1 | refine below_set ?_ GE2.out | refine below_set ?_ GE8.out) | exact HB.out))) hb); have mL_ := Aside0.mk (by (repeat (first | exact HZ.out | (with_reducible first | apply sz_alloc | apply sz_drewN | apply sz_drew | apply sz_set))) : n21 ≤ _); obtain ⟨n22, hn_⟩ : ∃ n_, n_ = w1087.heap.size := ⟨_, rfl⟩; have mN_ := Aside0.mk (by rw [hn_]; exact Nat.le_trans mL_.out hb.size : n21 ≤ n22); have mZ_ := Aside0.mk (Nat.le_of_eq hn_ : n22 ≤ w1087.heap.size); clear BK2 BK8 HO11 HO15 HO20 HO24 HO29 HO32 HO37 HO41 HO58 HO61 HO63 HB HZ; have BK2 := m0_; have BK8 := m1_; have HO11 := m2_; have HO15 := m3_; have HO20 := m4_; have HO24 := m5_; have HO29 := m6_; have HO32 := m7_; have HO37 := m8_; have HO41 := m9_; have HO58 := m10_; have HO61 := m11_; have HO63 := m12_; have HB := mB_; have HZ := mZ_; have HN22 := mN_; clear m0_ m1_ m2_ m3_ m4_ m5_ m6_ m7_ m8_ m9_ m10_ m11_ m12_ mB_ mN_ mZ_ mL_; (try clear hn_); clear hb) | (go_at_call 35; (with_reducible refine (laws_eqIntS.calls k _ _ g16 _ _ s18 true _ ?sr0 ?sc0 ?sr1 ?sc1 E9.out).mono ?_); (case sr0 => repeat (first | exact (Kd.R_reads' HO32.out).2.2 | (with_reducible refine Kd.C_alloc ?_ _) | (with_reducible refine Kd.C_drewN ?_ _) | (with_reducible refine Kd.C_drew ?_))); (case sc0 => first | exact (Kd.R_reads' HO32.out).2.1 | exact Nat.le_trans (Nat.le_of_eq (Kd.R_reads' HO32.out).1.symm) (Kd.R_reads' HO32.out).2.1); (case sr1 => repeat (first | exact (Kd.V_reads' HO20.out).2.2 | (with_reducible refine Kd.C_alloc ?_ _) | (with_reducible refine Kd.C_drewN ?_ _) | (with_reducible refine Kd.C_drew ?_))); (case sc1 => first | exact (Kd.V_reads' HO20.out).2.1 | exact Nat.le_trans (Nat.le_of_eq (Kd.V_reads' HO20.out).1.symm) (Kd.V_reads' HO20.out).2.1); rintro e w1065 ⟨rfl, hd_⟩; have hb := hd_.below; clear hd_; have m0_ := Aside0.mk (blk_below (g := gb2) (o := .cells #[.slice A0_0 l0_0.length c0_0] 55 (0, 0)) (by ((with_reducible repeat (first | refine blk_drewN ?_ _ | refine blk_drew ?_ | refine blk_alloc ?_ _)); exact BK2.out)) hb); have m1_ := Aside0.mk (blk_below (g := gb8) (o := .cells #[.slice Ao24 t9.length co24] 26 (0, 0)) (by ((with_reducible repeat (first | refine blk_drewN ?_ _ | refine blk_drew ?_ | refine blk_alloc ?_ _)); exact BK8.out)) hb); have m2_ := Aside0.mk (Kd.S_below (by ((with_reducible repeat (first | apply Kd.S_alloc | apply Kd.S_drewN | apply Kd.S_drew)); exact HO11.out)) hb); have m3_ := Aside0.mk (Kd.R_below (by ((with_reducible repeat (first | apply Kd.R_alloc | apply Kd.R_drewN | apply Kd.R_drew)); exact HO15.out)) hb); have m4_ := Aside0.mk (Kd.V_below (by ((with_reducible repeat (first | apply Kd.V_alloc | apply Kd.V_drewN | apply Kd.V_drew)); exact HO20.out)) hb); have m5_ := Aside0.mk (Kd.S_below (by ((with_reducible repeat (first | apply Kd.S_alloc | apply Kd.S_drewN | apply Kd.S_drew)); exact HO24.out)) hb); have m6_ := Aside0.mk (Kd.R_below (by ((with_reducible repeat (first | apply Kd.R_alloc | apply Kd.R_drewN | apply Kd.R_drew)); exact HO29.out)) hb); have m7_ := Aside0.mk (Kd.R_below (by ((with_reducible repeat (first | apply Kd.R_alloc | apply Kd.R_drewN | apply Kd.R_drew)); exact HO32.out)) hb); have m8_ := Aside0.mk (Kd.S_below (by ((with_reducible repeat (first | apply Kd.S_alloc | apply Kd.S_drewN | apply Kd.S_drew)); exact HO37.out)) hb); have m9_ := Aside0.mk (Kd.R_below (by ((with_reducible repeat (first | apply Kd.R_alloc | apply Kd.R_drewN | apply Kd.R_drew)); exact HO41.out)) hb); have mB_ := Aside0.mk (below_step (by (repeat (first | (with_reducible first | exact HB.out | apply below_alloc | apply pw_below_drewN | apply below_drew1 | refine below_set ?_ GE2.out | refine below_set ?_ GE8.out) | exact HB.out))) hb); have mL_ := Aside0.mk (by (repeat (first | exact HZ.out | (with_reducible first | apply sz_alloc | apply sz_drewN | apply sz_drew | apply sz_set))) : n15 ≤ _); obtain ⟨n16, hn_⟩ : ∃ n_, n_ = w1065.heap.size := ⟨_, rfl⟩; have mN_ := Aside0.mk (by rw [hn_]; exact Nat.le_trans mL_.out hb.size : n15 ≤ n16); have mZ_ := Aside0.mk (Nat.le_of_eq hn_ : n16 ≤ w1065.heap.size); clear BK2 BK8 HO11 HO15 HO20 HO24 HO29 HO32 HO37 HO41 HB HZ; have BK2 := m0_; have BK8 := m1_; have HO11 := m2_; have HO15 := m3_; have HO20 := m4_; have HO24 := m5_; have HO29 := m6_; have HO32 := m7_; have HO37 := m8_; have HO41 := m9_; have HB := mB_; have HZ := mZ_; have HN16 := mN_; clear m0_ m1_ m2_ m3_ m4_ m5_ m6_ m7_ m8_ m9_ mB_ mN_ mZ_ mL_; (try clear hn_); clear hb))
  go_ret
  exact ⟨rfl, by (repeat (first | (with_reducible first | exact HB.out | apply below_alloc | apply pw_below_drewN | apply below_drew1 | refine below_set ?_ GE2.out | refine below_set ?_ GE8.out) | exact HB.out))⟩
end Go.Proofs.YthnchjgffocigaaDoor.P
end
section
namespace Go.Proofs.YthnchjgffocigaaDoor.P
open Go.RowKit Go.Deep Go.Joins Go.WideShapes Go.ChangeShapes Go.ChangeAt Go.Proofs.YthnchjgffocigaaDoorW.PrintWords Go.Proofs.YthnchjgffocigaaDoorW.PrintLast Go.Proofs.YthnchjgffocigaaDoorW.PrintMore
set_option linter.unusedVariables false
set_option linter.unusedSectionVars false
section
variable {H : Type} {enc : TypeId × Value → H} {P : Program} {w : World} {base : Nat} {spare : Nat → Bool} {held : Bool}
theorem opn_int {t : TypeId} {k : IntKind} {n : Nat} {cs : List Value} {x : DataW H × List MemPlace} (ht : P.underlying t = some (.int k)) (h : DataW.trod enc P w base spare held n t cs = some x) :
    ∃ a : Int, (Kd.int k).K w a cs ∧ (Lit.int k a).wf = true := by
  obtain ⟨a, e, _, hw⟩ := DataW.trod_int ht h
  exact ⟨a, e, hw⟩
theorem opn_slice {α : Type} [Inhabited α] {d : Kd α} {Q : α → Prop} {t e : TypeId} {n : Nat} {cs : List Value} {x : DataW H × List MemPlace} (ht : P.underlying t = some (.slice e)) (hsz : P.cellsOf e = d.sz)
    (hel : ∀ n cs y, DataW.trod enc P w base spare held n e cs = some y → ∃ a, d.K w a cs ∧ Q a) (h : DataW.trod enc P w base spare held n t cs = some x) :
    ∃ l : List α, (Kd.slice e d).K w l cs ∧ (l.length ≤ 9223372036854775807 ∧ ∀ a ∈ l, Q a) := by
  rcases open_slice ht h with ⟨rfl, _⟩ | ⟨a, len, cap, m, n', D, Pl, rfl, hb, hl, hm, hmm, rfl, hx⟩
  · exact ⟨[], ⟨none, 0, rfl, Nat.le_refl _, Kd.C_nil d w⟩, by simp, by simp⟩
  · have hlm : len ≤ m := by rw [hmm]; split <;> omega
    have hmax : len ≤ 9223372036854775807 := by simp only [maxLen] at hm; omega
    have each : ∀ i, i < len → ∃ y : α, (∃ c, c.length = d.sz ∧ d.K w y c ∧ ∀ j u, c[j]? = some u → w.cell? (a.add (i * d.sz + j)) = some u) ∧ Q y := by
      intro i hi
      obtain ⟨cs', h1, h2⟩ := hx i (by omega)
      obtain ⟨y, hK, hQ⟩ := hel _ _ _ h2
      obtain ⟨_, hlen, hc⟩ := World.cells?_some h1
      rw [hsz] at hlen hc
      refine ⟨y, ⟨cs', hlen, hK, fun j u hu => ?_⟩, hQ⟩
      have hj : j < d.sz := by rw [← hlen]; exact (List.getElem?_eq_some_iff.1 hu).1
      rw [← hu, ← hc j hj, Addr.add_add]
    obtain ⟨f, hf⟩ := choose_lt each
    have hlen : ((List.range len).map f).length = len := by simp
    refine ⟨(List.range len).map f, ⟨some a, cap, by rw [hlen], by rw [hlen]; exact hl, rfl, by rw [hlen]; exact hmax, fun _ => ⟨a, rfl, fun j p hj => ?_⟩⟩, by rw [hlen]; exact hmax, fun y hy => ?_⟩
    · have hjl : j < len := by have := (List.getElem?_eq_some_iff.1 hj).1; omega
      have hp : f j = p := by simpa [List.getElem?_range hjl] using hj
      subst hp
      obtain ⟨c, h1, h2, h3⟩ := (hf j hjl).1
      exact ⟨c, h1, h2, h3⟩
    · obtain ⟨i, hi, rfl⟩ := List.mem_map.1 hy
      exact (hf i (List.mem_range.1 hi)).2
theorem byval1 {r : Reach} {b0 : Nat} {t : TypeId} {f0 : Field} {v : Value} {d : DataW H} {p : List MemPlace} (hs : P.underlying t = some (.struct #[f0])) (hone : oneCellFields P #[f0] = true) (hC : P.cellsOf t = 1)
    (hv : Value.okWide P w r b0 t v) (h : DataW.Trod enc P w base spare held t v d p) :
    ∃ (v0 : Value) (y0 : DataW H × List MemPlace) (n : Nat), v = .agg #[v0] ∧ DataW.trod enc P w base spare held n f0.type [v0] = some y0 := by
  obtain ⟨cs, rfl, hsz⟩ := okWide_struct hs hv
  obtain ⟨c0, rfl⟩ : ∃ c0, cs = #[c0] := by
    obtain ⟨l⟩ := cs
    match l, hsz.trans hC with
    | [c0], _ => exact ⟨c0, rfl⟩
  obtain ⟨fuel, hf⟩ := h
  obtain ⟨y0, n, _, _, h0⟩ := trod_struct1 hs hf
  obtain ⟨o0, k0⟩ := hone_of hone 0 f0 rfl
  exact ⟨c0, y0, n, rfl, by simpa [Value.cells, o0, k0] using h0⟩
instance : Inhabited S28 := ⟨⟨0, 0, 0, 0⟩⟩
instance : Inhabited S116 := ⟨⟨0, 0, 0, 0⟩⟩
set_option maxRecDepth 100000 in
theorem opn_S116 {w : World} {n : Nat} {cs : List Value} {y : DataW H × List MemPlace} (h : DataW.trod enc Tryd.prog w base spare held n 116 cs = some y) : ∃ x : S116, k116.K w x cs ∧ (fun x : S116 => (fun x => (Lit.int .i64 x).wf = true) x.f0 ∧ (fun x => (Lit.int .i64 x).wf = true) x.f1 ∧ (fun x => (Lit.int .i64 x).wf = true) x.f2 ∧ (fun x => (Lit.int .i64 x).wf = true) x.f3) x := by
  obtain ⟨y0, y1, y2, y3, m, _, hl, h0, h1, h2, h3⟩ := trod_struct4 Tryd.underlying116 h
  have hl' : cs.length = 4 := hl.trans (by kernel_rfl)
  have cc3 : Tryd.prog.cellsOf 3 = 1 := by kernel_rfl
  match cs, hl' with
  | [c0, c1, c2, c3], _ =>
  simp only [cc3, List.drop_zero, List.drop_succ_cons, List.take_succ_cons, List.take_zero] at h0 h1 h2 h3
  obtain ⟨a0, e0, w0⟩ := opn_int Tryd.underlying3 h0
  replace e0 := List.head_eq_of_cons_eq e0
  subst e0
  obtain ⟨a1, e1, w1⟩ := opn_int Tryd.underlying3 h1
  replace e1 := List.head_eq_of_cons_eq e1
  subst e1
  obtain ⟨a2, e2, w2⟩ := opn_int Tryd.underlying3 h2
  replace e2 := List.head_eq_of_cons_eq e2
  subst e2
  obtain ⟨a3, e3, w3⟩ := opn_int Tryd.underlying3 h3
  replace e3 := List.head_eq_of_cons_eq e3
  subst e3
  exact ⟨⟨a0, a1, a2, a3⟩, k116_mk w ⟨a0, a1, a2, a3⟩, w0, w1, w2, w3⟩
end
end Go.Proofs.YthnchjgffocigaaDoor.P
end
section
namespace Go.Proofs.YthnchjgffocigaaDoor.P
open Go.RowKit Go.Proofs.YthnchjgffocigaaDoorW.PrintWords Go.Proofs.YthnchjgffocigaaDoorW.PrintLast Go.Proofs.YthnchjgffocigaaDoorW.PrintMore
def FnExactMostApartTrue : Prop := ∀ (A0_0 : Option Addr) (c0_0 : Nat) (l0_0 : List (List Int)) (A1 : Option Addr) (c1 : Nat) (l1 : List S116) (w : World), Kd.C (Kd.slice 5 (Kd.int .u8)) w A0_0 l0_0.length l0_0 → l0_0.length ≤ c0_0 → Kd.C k116 w A1 l1.length l1 → l1.length ≤ c1 → (fun l => l.length ≤ 9223372036854775807 ∧ ∀ x ∈ l, (fun l => l.length ≤ 9223372036854775807 ∧ ∀ x ∈ l, (fun x => (Lit.int .u8 x).wf = true) x) x) l0_0 → (fun l => l.length ≤ 9223372036854775807 ∧ ∀ x ∈ l, (fun x => (fun x => (Lit.int .i64 x).wf = true) x.f0 ∧ (fun x => (Lit.int .i64 x).wf = true) x.f1 ∧ (fun x => (Lit.int .i64 x).wf = true) x.f2 ∧ (fun x => (Lit.int .i64 x).wf = true) x.f3) x) l1 → Aside0 (TabD w) → Calls Tryd.prog 4 #[.agg #[.slice A0_0 l0_0.length c0_0], .slice A1 l1.length c1] w fun e w' => e = .returned (.bool true) ∧ Below w.heap.size w w'
end Go.Proofs.YthnchjgffocigaaDoor.P
end
section
namespace Go.Proofs.YthnchjgffocigaaDoor.P
open Go.RowKit Go.Proofs.YthnchjgffocigaaDoorW.PrintWords Go.Proofs.YthnchjgffocigaaDoorW.PrintLast Go.Proofs.YthnchjgffocigaaDoorW.PrintMore
set_option linter.unusedVariables false
set_option linter.unusedSimpArgs false
def cvW (x : S116) : S28 := ⟨x.f0, x.f1, x.f2, x.f3⟩
theorem szWins (l : List S116) (t : Int) (hl : l.length ≤ 9223372036854775807) (h0 : ¬ t < 0) (h1 : t ≤ 1048576) : ∃ r, laws_szWindowS.f l t = some r ∧ (¬ r < 0 → l.length ≤ 1048576 ∧ r ≤ 1048576) := by
  unfold laws_szWindowS.f
  rw [wrap_in (x := t - (l.length : Int)) (by omega) (by omega)]
  by_cases h : t - (l.length : Int) < 0
  · rw [if_pos h]; exact ⟨_, rfl, fun h => by omega⟩
  · rw [if_neg h]; exact ⟨_, rfl, fun h => by omega⟩
theorem set_takeG {α : Type} (g x3 : List α) (i : Nat) (v : α) (hi : i < g.length) (hv : g[i] = v) (hl : x3.length = g.length) (ht : x3.take i = g.take i) : (x3.set i v).take (i + 1) = g.take (i + 1) := by
  rw [List.take_succ_eq_append_getElem (by simpa using (by omega : i < x3.length)), List.take_succ_eq_append_getElem hi]
  congr 1
  · rw [List.take_set_of_le (Nat.le_refl _)]; exact ht
  · simp [hv]
theorem rdA {l : List S116} {i : Nat} (h : i < l.length) : rd_T116 l (i : Int) = l[i] := by
  unfold rd_T116; rw [Int.toNat_natCast, List.getD_eq_getElem?_getD, List.getElem?_eq_getElem h]; rfl
theorem rdB {l : List S28} {i : Nat} (h : i < l.length) : rd_T28 l (i : Int) = l[i] := by
  unfold rd_T28; rw [Int.toNat_natCast, List.getD_eq_getElem?_getD, List.getElem?_eq_getElem h]; rfl
theorem toWins_l0 (x0 : List S116) (hmax : x0.length ≤ 1048576) (d : Nat) : ∀ (i : Nat) (x3 : List S28), i + d = x0.length → x3.length = x0.length → x3.take i = (x0.map cvW).take i →
    Ev (fun k => laws_toWindowS.l0 k x0 x3 (i : Int)) (x0.map cvW) := by
  induction d with
  | zero =>
    intro i x3 hi hl ht
    have e : x3 = x0.map cvW := by
      rw [List.take_of_length_le (by omega), List.take_of_length_le (by rw [List.length_map]; omega)] at ht; exact ht
    rw [e]
    exact Ev.end_ (fun k => by simp only [laws_toWindowS.l0]; rw [if_neg (by omega)])
  | succ d ih =>
    intro i x3 hi hl ht
    have hlt : i < x0.length := by omega
    obtain ⟨K2, h2⟩ := ih (i + 1) (x3.set i (cvW x0[i])) (by omega) (by simpa using hl) (set_takeG (x0.map cvW) x3 i _ (by simpa using hlt) (by simp) (by simpa using hl) ht)
    refine ⟨K2 + 1, fun n hn => ?_⟩
    obtain ⟨k, rfl⟩ : ∃ k, n = k + 1 := ⟨n - 1, by omega⟩
    have e2 := h2 k (by omega)
    dsimp only at e2 ⊢
    simp only [laws_toWindowS.l0, laws_toWindow.f, Option.bind_some]
    rw [if_pos (by omega), if_pos (by omega), if_pos (by omega), wrap_succ i (by omega), rdA hlt, Int.toNat_natCast]
    exact e2
theorem toWins (l : List S116) (hmax : l.length ≤ 1048576) : Ev (fun k => laws_toWindowS.f k l) (l.map cvW) := by
  obtain ⟨K, hK⟩ := toWins_l0 l hmax l.length 0 (List.replicate l.length z28) (by omega) (by simp) (by simp)
  refine ⟨K, fun k hk => ?_⟩
  have h1 := hK k hk
  simp only [Int.ofNat_zero, Int.natCast_zero] at h1
  dsimp only
  unfold laws_toWindowS.f
  rw [if_pos (by omega), if_pos (by rw [Int.toNat_natCast]; omega), Int.toNat_natCast]
  exact h1
theorem eqWins_l0 (l : List S28) (hmax : l.length ≤ 9223372036854775807) (d : Nat) : ∀ i : Nat, i + d = l.length → Ev (fun k => laws_eqWindowS.l0 k l l (i : Int)) true := by
  induction d with
  | zero => intro i hi; exact Ev.end_ (fun k => by simp only [laws_eqWindowS.l0]; rw [if_neg (by omega)])
  | succ d ih =>
    intro i hi
    have hlt : i < l.length := by omega
    obtain ⟨K2, h2⟩ := ih (i + 1) (by omega)
    refine ⟨K2 + 1, fun n hn => ?_⟩
    obtain ⟨k, rfl⟩ : ∃ k, n = k + 1 := ⟨n - 1, by omega⟩
    have e2 := h2 k (by omega)
    dsimp only at e2 ⊢
    simp only [laws_eqWindowS.l0, eqWin, Option.bind_some, if_true]
    rw [if_pos (by omega), if_pos (by omega), if_pos (by omega), wrap_succ i (by omega)]
    exact e2
theorem eqWins (l : List S28) (hmax : l.length ≤ 9223372036854775807) : Ev (fun k => laws_eqWindowS.f k l l) true := by
  obtain ⟨K, hK⟩ := eqWins_l0 l hmax l.length 0 (by omega)
  exact ⟨K, fun k hk => by dsimp only; unfold laws_eqWindowS.f; rw [if_pos rfl]; exact hK k hk⟩
def onAll (m : List (List Int)) (l : List S28) : Bool := l.all fun x => winOn m x.f0 x.f1 x.f2 x.f3
def wf4 (x : S28) : Prop := -9223372036854775808 ≤ x.f1 ∧ x.f1 ≤ 9223372036854775807
end Go.Proofs.YthnchjgffocigaaDoor.P
end
section
namespace Go.Proofs.YthnchjgffocigaaDoor.P
open Go.RowKit Go.Proofs.YthnchjgffocigaaDoorW.PrintWords Go.Proofs.YthnchjgffocigaaDoorW.PrintLast Go.Proofs.YthnchjgffocigaaDoorW.PrintMore
set_option linter.unusedVariables false
set_option linter.unusedSimpArgs false
def ramp8 (a : Int) (n : Nat) : List Int := (List.range n).map fun (i : Nat) => (a + (i : Int)) % 256
theorem ramp8_len (a : Int) (n : Nat) : (ramp8 a n).length = n := by simp [ramp8]
theorem ramp8_succ (a : Int) (n : Nat) : ramp8 a (n + 1) = ramp8 a n ++ [(a + n) % 256] := by simp [ramp8, List.range_succ]
theorem markBytes_l0 (l : List Int) (a : Int) (hl : l.length ≤ 1099511627776) (h0 : 0 ≤ a) (h1 : a ≤ 4398046511104) (d : Nat) : ∀ i : Nat, i + d = l.length →
    Ev (fun k => laws_markByteS.l0 k (ramp8 a i ++ l.drop i) (a + i) (i : Int)) (a + l.length, ramp8 a l.length) := by
  induction d with
  | zero =>
    intro i hi
    obtain rfl : i = l.length := by omega
    refine Ev.end_ (fun k => ?_)
    simp only [laws_markByteS.l0]
    rw [if_neg (by simp [ramp8_len])]
    simp
  | succ d ih =>
    intro i hi
    have hlt : i < l.length := by omega
    have e : (ramp8 a i ++ l.drop i).set i ((a + i) % 256) = ramp8 a (i + 1) ++ l.drop (i + 1) := by
      rw [List.drop_eq_getElem_cons hlt, List.set_append_right _ _ (by rw [ramp8_len]; exact Nat.le_refl _), ramp8_succ, ramp8_len, Nat.sub_self, List.set_cons_zero, List.append_assoc]
      rfl
    obtain ⟨K, hK⟩ := ih (i + 1) (by omega)
    refine ⟨K + 1, fun n hn => ?_⟩
    obtain ⟨k, rfl⟩ : ∃ k, n = k + 1 := ⟨n - 1, by omega⟩
    have e2 := hK k (by omega)
    dsimp only at e2 ⊢
    simp only [laws_markByteS.l0]
    rw [if_pos (by simp [ramp8_len]; omega), if_pos (by omega), Int.toNat_natCast, e, wrap_in (x := a + i + 1) (by omega) (by omega), wrap_succ i (by omega)]
    rw [show a + (i : Int) + 1 = a + ((i + 1 : Nat) : Int) by omega]
    exact e2
theorem markBytes (l : List Int) (a : Int) (hl : l.length ≤ 1099511627776) (h0 : 0 ≤ a) (h1 : a ≤ 4398046511104) : Ev (fun k => laws_markByteS.f k l a) (a + l.length, ramp8 a l.length) := by
  obtain ⟨K, hK⟩ := markBytes_l0 l a hl h0 h1 l.length 0 (by omega)
  refine ⟨K, fun k hk => ?_⟩
  have := hK k hk
  simpa [laws_markByteS.f, ramp8] using this
def total (m : List (List Int)) : Nat := (m.map List.length).sum
theorem total_small {m : List (List Int)} (h : Small m) : total m ≤ 1099511627776 := by
  obtain ⟨h1, h2⟩ := h
  have : ∀ m : List (List Int), (∀ a ∈ m, a.length ≤ 1048576) → total m ≤ m.length * 1048576 := by
    intro m
    induction m with
    | nil => intro _; simp [total]
    | cons a m ih =>
      intro h
      have h3 := h a List.mem_cons_self
      have h4 := ih (fun x hx => h x (List.mem_cons_of_mem _ hx))
      have e : total (a :: m) = a.length + total m := by simp [total]
      have e2 : (a :: m).length = m.length + 1 := rfl
      rw [e, e2]
      omega
  have := this m h2
  omega
def rampSS : List (List Int) → Int → List (List Int)
  | [], _ => []
  | l :: ls, a => ramp8 a l.length :: rampSS ls (a + l.length)
theorem rampSS_len : ∀ (m : List (List Int)) (a : Int), (rampSS m a).length = m.length
  | [], _ => rfl
  | _ :: ls, a => by simp [rampSS, rampSS_len ls]
theorem rampSS_at : ∀ (m : List (List Int)) (a : Int) (j : Nat) (h : j < m.length), (rampSS m a)[j]? = some (ramp8 (a + total (m.take j)) m[j].length)
  | l :: ls, a, 0, h => by simp [rampSS, total]
  | l :: ls, a, j + 1, h => by
    have h' : j < ls.length := by simpa using h
    have := rampSS_at ls (a + l.length) j h'
    simp only [rampSS, List.getElem?_cons_succ, this, List.take_succ_cons, List.getElem_cons_succ]
    congr 2
    simp [total]
    omega
theorem total_append (a b : List (List Int)) : total (a ++ b) = total a + total b := by simp [total]
theorem total_take_succ (m : List (List Int)) (j : Nat) (h : j < m.length) : total (m.take (j + 1)) = total (m.take j) + m[j].length := by
  rw [List.take_succ_eq_append_getElem h, total_append]
  have e : total [m[j]] = m[j].length := by simp [total]
  rw [e]
theorem total_take_le (m : List (List Int)) (j : Nat) : total (m.take j) ≤ total m := by
  have e : total (m.take j ++ m.drop j) = total (m.take j) + total (m.drop j) := total_append _ _
  rw [List.take_append_drop] at e
  omega
theorem markSS_l0 (m : List (List Int)) (a : Int) (hm : m.length ≤ 1048576) (ht : total m ≤ 1099511627776) (h0 : 0 ≤ a) (h1 : a ≤ 2199023255552) (d : Nat) : ∀ i : Nat, i + d = m.length →
    Ev (fun k => laws_markByteSS.l0 k ((rampSS m a).take i ++ m.drop i) (a + total (m.take i)) (i : Int)) (a + total m, rampSS m a) := by
  induction d with
  | zero =>
    intro i hi
    obtain rfl : i = m.length := by omega
    refine Ev.end_ (fun k => ?_)
    simp only [laws_markByteSS.l0]
    have e1 : (rampSS m a).take m.length = rampSS m a := List.take_of_length_le (by rw [rampSS_len]; exact Nat.le_refl _)
    rw [if_neg (by simp [rampSS_len]), e1]
    simp
  | succ d ih =>
    intro i hi
    have hlt : i < m.length := by omega
    have hti := total_take_succ m i hlt
    have htl := total_take_le m (i + 1)
    have hr := rampSS_at m a i hlt
    have hl1 : ((rampSS m a).take i).length = i := by rw [List.length_take, rampSS_len]; omega
    have erd : rd_L1 ((rampSS m a).take i ++ m.drop i) (i : Int) = m[i] := by
      unfold rd_L1
      rw [Int.toNat_natCast, List.getD_eq_getElem?_getD, List.getElem?_append_right (by omega), hl1, Nat.sub_self, List.getElem?_drop]
      simp [List.getElem?_eq_getElem hlt]
    have e : ((rampSS m a).take i ++ m.drop i).set i (ramp8 (a + total (m.take i)) m[i].length) = (rampSS m a).take (i + 1) ++ m.drop (i + 1) := by
      rw [List.drop_eq_getElem_cons hlt, List.set_append_right _ _ (by omega), hl1, Nat.sub_self, List.set_cons_zero, List.take_add_one, hr, List.append_assoc]
      rfl
    obtain ⟨K1, hK1⟩ := markBytes m[i] (a + total (m.take i)) (by omega) (by omega) (by omega)
    obtain ⟨K, hK⟩ := ih (i + 1) (by omega)
    refine ⟨K1 + K + 1, fun n hn => ?_⟩
    obtain ⟨k, rfl⟩ : ∃ k, n = k + 1 := ⟨n - 1, by omega⟩
    have e1 := hK1 k (by omega)
    have e2 := hK k (by omega)
    dsimp only at e1 e2 ⊢
    simp only [laws_markByteSS.l0]
    rw [if_pos (by rw [List.length_append, hl1, List.length_drop]; omega), if_pos (by omega), erd, e1, Option.bind_some]
    dsimp only
    rw [Int.toNat_natCast, e, wrap_succ i (by omega)]
    rw [show a + (total (m.take i) : Int) + (m[i].length : Int) = a + (total (m.take (i + 1)) : Int) by omega]
    exact e2
theorem markMem (m : List (List Int)) (a : Int) (hm : Small m) (h0 : 0 ≤ a) (h1 : a ≤ 2199023255552) : Ev (fun k => laws_markMemory.f k m a) (a + total m, rampSS m a) := by
  obtain ⟨K, hK⟩ := markSS_l0 m a hm.1 (total_small hm) h0 h1 m.length 0 (by omega)
  refine ⟨K, fun k hk => ?_⟩
  have := hK k hk
  simpa [laws_markMemory.f, laws_markByteSS.f, total] using this
end Go.Proofs.YthnchjgffocigaaDoor.P
end
section
namespace Go.Proofs.YthnchjgffocigaaDoor.P
open Go.RowKit Go.Proofs.YthnchjgffocigaaDoorW.PrintWords Go.Proofs.YthnchjgffocigaaDoorW.PrintLast Go.Proofs.YthnchjgffocigaaDoorW.PrintMore
set_option linter.unusedVariables false
set_option linter.unusedSimpArgs false
theorem markWins_l0 (d : Nat) : ∀ (i : Nat) (a : Int) (x : List S28), i + d = x.length → x.length ≤ 1048576 → 0 ≤ a → a + 4 * d ≤ 8796093022208 → ∃ y, Ev (fun k => laws_markWindowS.l0 k x a (i : Int)) (a + 4 * d, y) := by
  induction d with
  | zero =>
    intro i a x hi hx h0 h1
    refine ⟨x, Ev.end_ (fun k => ?_)⟩
    simp only [laws_markWindowS.l0]
    rw [if_neg (by omega)]
    simp
  | succ d ih =>
    intro i a x hi hx h0 h1
    have hl : ∀ (b0 b1 b2 b3 : S28), ((((x.set i b0).set i b1).set i b2).set i b3).length = x.length := by intro b0 b1 b2 b3; simp
    have step : ∀ (b0 b1 b2 b3 : S28), ∃ y, Ev (fun k => laws_markWindowS.l0 k ((((x.set i b0).set i b1).set i b2).set i b3) (a + 1 + 1 + 1 + 1) ((i + 1 : Nat) : Int)) (a + 4 * ((d + 1 : Nat) : Int), y) := by
      intro b0 b1 b2 b3
      obtain ⟨y, hy⟩ := ih (i + 1) (a + 1 + 1 + 1 + 1) ((((x.set i b0).set i b1).set i b2).set i b3) (by rw [hl]; omega) (by rw [hl]; omega) (by omega) (by omega)
      refine ⟨y, ?_⟩
      rw [show a + 4 * ((d + 1 : Nat) : Int) = a + 1 + 1 + 1 + 1 + 4 * (d : Int) by omega]
      exact hy
    have e : ∀ k, ∃ b0 b1 b2 b3, laws_markWindowS.l0 (k + 1) x a (i : Int) = laws_markWindowS.l0 k ((((x.set i b0).set i b1).set i b2).set i b3) (a + 1 + 1 + 1 + 1) ((i + 1 : Nat) : Int) ∧ ∀ k', laws_markWindowS.l0 (k' + 1) x a (i : Int) = laws_markWindowS.l0 k' ((((x.set i b0).set i b1).set i b2).set i b3) (a + 1 + 1 + 1 + 1) ((i + 1 : Nat) : Int) := by
      intro k
      have h : ∀ k', laws_markWindowS.l0 (k' + 1) x a (i : Int) = _ := fun k' => by
        simp only [laws_markWindowS.l0, Option.bind_some, Int.toNat_natCast]
        rw [if_pos (by omega), if_pos (by omega), wrap_in (x := a + 1) (by omega) (by omega), wrap_in (x := a + 1 + 1) (by omega) (by omega), wrap_in (x := a + 1 + 1 + 1) (by omega) (by omega), wrap_in (x := a + 1 + 1 + 1 + 1) (by omega) (by omega), wrap_succ i (by omega)]
      exact ⟨_, _, _, _, h k, h⟩
    obtain ⟨b0, b1, b2, b3, _, e⟩ := e 0
    obtain ⟨y, K, hK⟩ := step b0 b1 b2 b3
    refine ⟨y, K + 1, fun n hn => ?_⟩
    obtain ⟨k, rfl⟩ : ∃ k, n = k + 1 := ⟨n - 1, by omega⟩
    dsimp only
    rw [e k]
    exact hK k (by omega)
theorem markWins (l : List S28) (a : Int) (hl : l.length ≤ 1048576) (h0 : 0 ≤ a) (h1 : a ≤ 4398046511104) : ∃ y, Ev (fun k => laws_markWindowS.f k l a) (a + 4 * (l.length : Int), y) := by
  obtain ⟨y, hy⟩ := markWins_l0 l.length 0 a l (by omega) hl h0 (by omega)
  exact ⟨y, hy⟩
end Go.Proofs.YthnchjgffocigaaDoor.P
end
section
namespace Go.Proofs.YthnchjgffocigaaDoor.P
open Go.RowKit Go.Proofs.YthnchjgffocigaaDoorW.PrintWords Go.Proofs.YthnchjgffocigaaDoorW.PrintLast Go.Proofs.YthnchjgffocigaaDoorW.PrintMore
set_option linter.unusedVariables false
set_option linter.unusedSimpArgs false
def ramp (a : Int) (n : Nat) : List Int := (List.range n).map fun (i : Nat) => a + (i : Int)
theorem ramp_len (a : Int) (n : Nat) : (ramp a n).length = n := by simp [ramp]
theorem ramp_succ (a : Int) (n : Nat) : ramp a (n + 1) = ramp a n ++ [a + n] := by simp [ramp, List.range_succ]
theorem markInts_l0 (l : List Int) (a : Int) (hl : l.length ≤ 1048576) (h0 : 0 ≤ a) (h1 : a ≤ 1099511627776) (d : Nat) : ∀ i : Nat, i + d = l.length →
    Ev (fun k => laws_markIntS.l0 k (ramp a i ++ l.drop i) (a + i) (i : Int)) (a + l.length, ramp a l.length) := by
  induction d with
  | zero =>
    intro i hi
    obtain rfl : i = l.length := by omega
    refine Ev.end_ (fun k => ?_)
    simp only [laws_markIntS.l0]
    rw [if_neg (by simp [ramp_len])]
    simp
  | succ d ih =>
    intro i hi
    have hlt : i < l.length := by omega
    have e : (ramp a i ++ l.drop i).set i (a + i) = ramp a (i + 1) ++ l.drop (i + 1) := by
      rw [List.drop_eq_getElem_cons hlt, List.set_append_right _ _ (by rw [ramp_len]; exact Nat.le_refl _), ramp_succ, ramp_len, Nat.sub_self, List.set_cons_zero, List.append_assoc]
      rfl
    obtain ⟨K, hK⟩ := ih (i + 1) (by omega)
    refine ⟨K + 1, fun n hn => ?_⟩
    obtain ⟨k, rfl⟩ : ∃ k, n = k + 1 := ⟨n - 1, by omega⟩
    have e2 := hK k (by omega)
    dsimp only at e2 ⊢
    simp only [laws_markIntS.l0]
    rw [if_pos (by simp [ramp_len]; omega), if_pos (by omega), Int.toNat_natCast, e, wrap_in (x := a + i + 1) (by omega) (by omega), wrap_succ i (by omega)]
    rw [show a + (i : Int) + 1 = a + ((i + 1 : Nat) : Int) by omega]
    exact e2
theorem markInts (l : List Int) (a : Int) (hl : l.length ≤ 1048576) (h0 : 0 ≤ a) (h1 : a ≤ 1099511627776) : Ev (fun k => laws_markIntS.f k l a) (a + l.length, ramp a l.length) := by
  obtain ⟨K, hK⟩ := markInts_l0 l a hl h0 h1 l.length 0 (by omega)
  refine ⟨K, fun k hk => ?_⟩
  have := hK k hk
  simpa [laws_markIntS.f, ramp] using this
theorem heldInts_l0 (a : Int) (m : Nat) (hm : m ≤ 1048576) (h0 : 0 ≤ a) (h1 : a ≤ 1099511627776) (d : Nat) : ∀ i : Nat, i + d = m →
    Ev (fun k => laws_heldIntS.l0 k (ramp a m) (a + i) (i : Int)) (a + m) := by
  induction d with
  | zero =>
    intro i hi
    obtain rfl : i = m := by omega
    refine Ev.end_ (fun k => ?_)
    simp only [laws_heldIntS.l0]
    rw [if_neg (by simp [ramp_len])]
  | succ d ih =>
    intro i hi
    have hlt : i < m := by omega
    have e : rd (ramp a m) (i : Int) = a + i := by
      unfold rd
      rw [Int.toNat_natCast, List.getD_eq_getElem?_getD, List.getElem?_eq_getElem (by rw [ramp_len]; exact hlt)]
      simp [ramp]
    obtain ⟨K, hK⟩ := ih (i + 1) (by omega)
    refine ⟨K + 1, fun n hn => ?_⟩
    obtain ⟨k, rfl⟩ : ∃ k, n = k + 1 := ⟨n - 1, by omega⟩
    have e2 := hK k (by omega)
    dsimp only at e2 ⊢
    simp only [laws_heldIntS.l0]
    rw [if_pos (by rw [ramp_len]; omega), if_pos (by omega), if_pos e, wrap_in (x := a + i + 1) (by omega) (by omega), wrap_succ i (by omega)]
    rw [show a + (i : Int) + 1 = a + ((i + 1 : Nat) : Int) by omega]
    exact e2
theorem heldInts (a : Int) (m : Nat) (hm : m ≤ 1048576) (h0 : 0 ≤ a) (h1 : a ≤ 1099511627776) : Ev (fun k => laws_heldIntS.f k (ramp a m) a) (a + m) := by
  obtain ⟨K, hK⟩ := heldInts_l0 a m hm h0 h1 m 0 (by omega)
  refine ⟨K, fun k hk => ?_⟩
  have := hK k hk
  simpa [laws_heldIntS.f] using this
end Go.Proofs.YthnchjgffocigaaDoor.P
end
section
namespace Go.Proofs.YthnchjgffocigaaDoor.P
open Go.RowKit Go.Proofs.YthnchjgffocigaaDoorW.PrintWords Go.Proofs.YthnchjgffocigaaDoorW.PrintLast Go.Proofs.YthnchjgffocigaaDoorW.PrintMore
set_option linter.unusedVariables false
set_option linter.unusedSimpArgs false
theorem eqInts_l0 (l : List Int) (hmax : l.length ≤ 9223372036854775807) (d : Nat) : ∀ i : Nat, i + d = l.length → Ev (fun k => laws_eqIntS.l0 k l l (i : Int)) true := by
  induction d with
  | zero => intro i hi; exact Ev.end_ (fun k => by simp only [laws_eqIntS.l0]; rw [if_neg (by omega)])
  | succ d ih =>
    intro i hi
    refine Ev.step (fun k => ?_) (ih (i + 1) (by omega))
    simp only [laws_eqIntS.l0]
    rw [if_pos (by omega), if_pos (by omega), if_pos (by omega), if_pos trivial, wrap_succ i (by omega)]
theorem eqInts (l : List Int) (hmax : l.length ≤ 9223372036854775807) : Ev (fun k => laws_eqIntS.f k l l) true := by
  obtain ⟨K, hK⟩ := eqInts_l0 l hmax l.length 0 (by omega)
  exact ⟨K, fun k hk => by dsimp only; unfold laws_eqIntS.f; rw [if_pos rfl]; exact hK k hk⟩
end Go.Proofs.YthnchjgffocigaaDoor.P
end
section
namespace Go.Proofs.YthnchjgffocigaaDoor.P
open Go.RowKit Go.Proofs.YthnchjgffocigaaDoorW.PrintWords Go.Proofs.YthnchjgffocigaaDoorW.PrintLast Go.Proofs.YthnchjgffocigaaDoorW.PrintMore
set_option linter.unusedVariables false
def Sm (s l : Int) : Prop := -1000000 ≤ s ∧ s ≤ 1000000 ∧ -1000000 ≤ l ∧ l ≤ 1000000
theorem win_sm {m : List (List Int)} {a s l c : Int} (hok : memOk m = true) (h : winOn m a s l c = true) : Sm s l ∧ Sm s c ∧ 0 ≤ s ∧ 0 ≤ l ∧ l ≤ c ∧ c ≤ 64 ∧ (0 ≤ a ∧ a < m.length) ∧ s + c ≤ (m.getD a.toNat []).length ∧ (m.getD a.toNat []).length ≤ 64 := by
  rw [winOn_iff] at h
  have hlt : a.toNat < m.length := by omega
  have := memOk_each hok _ (getD_mem m [] a.toNat hlt)
  unfold Sm
  omega
end Go.Proofs.YthnchjgffocigaaDoor.P
end
section
namespace Go.Proofs.YthnchjgffocigaaDoor.P
open Go.RowKit Go.Proofs.YthnchjgffocigaaDoorW.PrintWords Go.Proofs.YthnchjgffocigaaDoorW.PrintLast Go.Proofs.YthnchjgffocigaaDoorW.PrintMore
set_option linter.unusedVariables false
set_option linter.unusedSimpArgs false
def ov (a s l b t u : Int) : Int := if a = b then (if mx s t < mn (s + l) (t + u) then mn (s + l) (t + u) - mx s t else 0) else 0
theorem least_eq (x y : Int) : spec_l1Least.f x y = some (mn x y) := by
  unfold spec_l1Least.f mn
  by_cases h : x < y
  · rw [if_pos h, if_neg (by omega)]
  · rw [if_neg h]
    by_cases h2 : y < x
    · rw [if_pos h2]
    · rw [if_neg h2, show x = y by omega]
theorem most_eq (x y : Int) : spec_l1Most.f x y = some (mx x y) := by
  unfold spec_l1Most.f mx
  by_cases h : x > y
  · rw [if_pos h, if_neg (by omega)]
  · rw [if_neg h]
    by_cases h2 : x < y
    · rw [if_pos h2]
    · rw [if_neg h2, show x = y by omega]
theorem mx_bd (x y : Int) : (mx x y = x ∨ mx x y = y) ∧ x ≤ mx x y ∧ y ≤ mx x y := by unfold mx; split <;> omega
theorem mn_bd (x y : Int) : (mn x y = x ∨ mn x y = y) ∧ mn x y ≤ x ∧ mn x y ≤ y := by unfold mn; split <;> omega
theorem overlap_eq (a s l c b t u d : Int) (h1 : Sm s l) (h2 : Sm t u) : spec_l2Overlap.f a s l c b t u d = some (ov a s l b t u) := by
  unfold Sm at h1 h2
  unfold spec_l2Overlap.f ov
  have hx := mx_bd s t
  have hn := mn_bd (s + l) (t + u)
  by_cases h : a = b
  · rw [if_pos h, if_pos h, wrap_in (x := s + l) (by omega) (by omega), wrap_in (x := t + u) (by omega) (by omega)]
    simp only [least_eq, most_eq, Option.bind_some]
    rw [wrap_in (x := mn (s + l) (t + u) - mx s t) (by omega) (by omega)]
    by_cases h3 : mx s t < mn (s + l) (t + u)
    · rw [if_pos h3]; unfold mx; rw [if_pos (by unfold mx at h3; omega)]
    · rw [if_neg h3]; unfold mx; rw [if_neg (by unfold mx at h3; omega)]
  · rw [if_neg h, if_neg h]
theorem common_eq (a s l c b t u d : Int) (h1 : Sm s l) (h2 : Sm t u) : impl_common.f a s l c b t u d = some (ov a s l b t u, if 0 < ov a s l b t u then mx s t else -1) := by
  unfold Sm at h1 h2
  have hx := mx_bd s t
  have hn := mn_bd (s + l) (t + u)
  unfold impl_common.f ov
  by_cases h : a = b
  · rw [if_pos h, if_pos h, wrap_in (x := s + l) (by omega) (by omega), wrap_in (x := t + u) (by omega) (by omega)]
    by_cases h3 : mx s t < mn (s + l) (t + u)
    · rw [if_neg (by omega), if_pos h3, if_pos (by omega), wrap_in (x := mn (s + l) (t + u) - mx s t) (by omega) (by omega)]
    · rw [if_pos (by omega), if_neg h3, if_neg (by omega)]
  · rw [if_neg h, if_neg h, if_neg (by omega)]
theorem shared_eq (a s l c b t u d : Int) (h1 : Sm s l) (h2 : Sm t u) : impl_areShared.f a s l c b t u d = some (decide (0 < ov a s l b t u)) := by
  unfold impl_areShared.f
  rw [common_eq a s l c b t u d h1 h2]
  rfl
end Go.Proofs.YthnchjgffocigaaDoor.P
end
section
namespace Go.Proofs.YthnchjgffocigaaDoor.P
open Go.RowKit Go.Proofs.YthnchjgffocigaaDoorW.PrintWords Go.Proofs.YthnchjgffocigaaDoorW.PrintLast Go.Proofs.YthnchjgffocigaaDoorW.PrintMore
set_option linter.unusedVariables false
set_option linter.unusedSimpArgs false
theorem l3Watched_l0 (m : List (List Int)) (hm : Fit m) (l : List S28) (hw : ∀ x ∈ l, wf4 x) (hlen : l.length ≤ 1048576) (d : Nat) : ∀ i : Nat, i + d = min l.length 13 →
    Ev (fun k => spec_l3Watched.l0 k l i m) (((l.drop i).take d).all (fun x => memOk m && winOn m x.f0 x.f1 x.f2 x.f3) && (memOk m && decide (l.length ≤ 12))) := by
  induction d with
  | zero =>
    intro i hi
    obtain ⟨K, hK⟩ := l2Mem m hm.1
    refine ⟨K + 2, fun k hk => ?_⟩
    obtain ⟨k, rfl⟩ : ∃ j, k = j + 1 + 1 := ⟨k - 2, by omega⟩
    have e1 := hK k (by omega)
    dsimp only at e1 ⊢
    have hj : spec_l3Watched.j1 (k + 1) l i false m = some (memOk m && decide (l.length ≤ 12)) := by
      unfold spec_l3Watched.j1
      rw [if_neg (by decide), e1, Option.bind_some]
      cases memOk m
      · rfl
      · rw [if_pos rfl]
        simp only [Bool.true_and, Option.some.injEq]
        rw [Bool.eq_iff_iff]
        simp only [decide_eq_true_eq]
        omega
    unfold spec_l3Watched.l0
    rw [List.take_zero, List.all_nil, Bool.true_and]
    by_cases h : (i : Int) < l.length
    · rw [if_pos h, decide_eq_false (show ¬ (i : Int) ≤ 12 by omega)]
      exact hj
    · rw [if_neg h]
      exact hj
  | succ d ih =>
    intro i hi
    have hlt : i < l.length := by omega
    obtain ⟨K, hK⟩ := l2Win m hm l[i].f0 l[i].f1 l[i].f2 l[i].f3 (hw _ (List.getElem_mem hlt))
    obtain ⟨K2, h2⟩ := ih (i + 1) (by omega)
    refine ⟨K + K2 + 2, fun k hk => ?_⟩
    obtain ⟨k, rfl⟩ : ∃ j, k = j + 1 + 1 := ⟨k - 2, by omega⟩
    have e1 := hK k (by omega)
    have e2 := h2 k (by omega)
    dsimp only at e1 e2 ⊢
    unfold spec_l3Watched.l0
    rw [if_pos (by omega), decide_eq_true (show (i : Int) ≤ 12 by omega)]
    unfold spec_l3Watched.j1
    rw [if_pos rfl, if_pos (by omega), if_pos (by omega), rdB hlt, e1, Option.bind_some, wrap_succ i (by omega), e2, List.drop_eq_getElem_cons hlt, List.take_succ_cons, List.all_cons]
    cases memOk m && winOn m l[i].f0 l[i].f1 l[i].f2 l[i].f3 <;> rfl
def watched (m : List (List Int)) (l : List S28) : Bool := memOk m && (onAll m l && decide (l.length ≤ 12))
theorem l3Watched_ev (m : List (List Int)) (hm : Fit m) (l : List S28) (hw : ∀ x ∈ l, wf4 x) (hlen : l.length ≤ 1048576) : Ev (fun k => spec_l3Watched.f k m l) (watched m l) := by
  obtain ⟨K, hK⟩ := l3Watched_l0 m hm l hw hlen (min l.length 13) 0 (by omega)
  refine ⟨K, fun k hk => ?_⟩
  have e1 := hK k hk
  refine e1.trans ?_
  unfold watched onAll
  rw [List.drop_zero, Option.some.injEq]
  by_cases h : l.length ≤ 12
  · rw [List.take_of_length_le (by omega), decide_eq_true h]
    cases memOk m
    · simp
    · simp
  · rw [decide_eq_false h]
    simp
theorem areWatched_ev (m : List (List Int)) (hm : Fit m) (l : List S28) : Ev (fun k => impl_areWatched.f k m l) (watched m l) := by
  obtain ⟨K, hK⟩ := areOn_ev m hm l
  refine ⟨K, fun k hk => ?_⟩
  have e1 := hK k hk
  dsimp only at e1 ⊢
  unfold impl_areWatched.f
  rw [e1, Option.bind_some]
  unfold watched onAll
  have e : decide ((l.length : Int) ≤ 12) = decide (l.length ≤ 12) := by
    rw [Bool.eq_iff_iff]; simp only [decide_eq_true_eq]; omega
  rw [e]
  cases memOk m <;> cases (l.all fun x => winOn m x.f0 x.f1 x.f2 x.f3) <;> rfl
end Go.Proofs.YthnchjgffocigaaDoor.P
end
section
namespace Go.Proofs.YthnchjgffocigaaDoor.P
open Go.RowKit Go.Proofs.YthnchjgffocigaaDoorW.PrintWords Go.Proofs.YthnchjgffocigaaDoorW.PrintLast Go.Proofs.YthnchjgffocigaaDoorW.PrintMore
set_option linter.unusedVariables false
set_option linter.unusedSimpArgs false
def iz (q : List Nat) : List Int := q.map fun (x : Nat) => (x : Int)
theorem iz_len (q : List Nat) : (iz q).length = q.length := by simp [iz]
theorem iz_snoc (q : List Nat) (k : Nat) : iz (q ++ [k]) = iz q ++ [(k : Int)] := by simp [iz]
def smB (x : S28) : Bool := decide (-1000000 ≤ x.f1 ∧ x.f1 ≤ 1000000 ∧ -1000000 ≤ x.f2 ∧ x.f2 ≤ 1000000)
theorem smB_iff {x : S28} : smB x = true ↔ Sm x.f1 x.f2 := by unfold smB Sm; exact decide_eq_true_iff
def shW (l : List S28) (a b : Nat) : Bool := decide (0 < ov (rd_T28 l a).f0 (rd_T28 l a).f1 (rd_T28 l a).f2 (rd_T28 l b).f0 (rd_T28 l b).f1 (rd_T28 l b).f2)
def grpOk (l : List S28) : Bool := decide (l.length ≤ 12) && l.all smB
theorem grpOk_at {l : List S28} (h : grpOk l = true) : l.length ≤ 12 ∧ ∀ a : Nat, a < l.length → Sm (rd_T28 l a).f1 (rd_T28 l a).f2 := by
  unfold grpOk at h
  simp only [Bool.and_eq_true, decide_eq_true_eq, List.all_eq_true] at h
  refine ⟨h.1, fun a ha => smB_iff.1 (h.2 _ ?_)⟩
  unfold rd_T28
  rw [Int.toNat_natCast, List.getD_eq_getElem?_getD, List.getElem?_eq_getElem ha]
  exact List.getElem_mem ha
theorem onAll_each {m : List (List Int)} {l : List S28} (h : watched m l = true) : memOk m = true ∧ (∀ x ∈ l, winOn m x.f0 x.f1 x.f2 x.f3 = true) ∧ l.length ≤ 12 := by
  unfold watched onAll at h
  simp only [Bool.and_eq_true, decide_eq_true_eq, List.all_eq_true] at h
  exact ⟨h.1, h.2.1, h.2.2⟩
theorem win_lt {m : List (List Int)} {x : S28} (hok : memOk m = true) (h : winOn m x.f0 x.f1 x.f2 x.f3 = true) : 0 ≤ x.f1 ∧ 0 ≤ x.f2 ∧ x.f2 ≤ x.f3 ∧ x.f3 ≤ 64 ∧ x.f1 + x.f3 ≤ 64 := by
  obtain ⟨_, _, h0, h1, h2, h3, h4, h5, h6⟩ := win_sm hok h
  have hlt : x.f0.toNat < m.length := by omega
  have := memOk_each hok _ (getD_mem m [] x.f0.toNat hlt)
  omega
theorem watched_ok {m : List (List Int)} {l : List S28} (h : watched m l = true) : grpOk l = true := by
  obtain ⟨h1, h2, h3⟩ := onAll_each h
  unfold grpOk
  simp only [Bool.and_eq_true, decide_eq_true_eq, List.all_eq_true]
  refine ⟨h3, fun x hx => smB_iff.2 ?_⟩
  have := win_lt h1 (h2 x hx)
  unfold Sm
  omega
end Go.Proofs.YthnchjgffocigaaDoor.P
end
section
namespace Go.Proofs.YthnchjgffocigaaDoor.P
open Go.RowKit Go.Proofs.YthnchjgffocigaaDoorW.PrintWords Go.Proofs.YthnchjgffocigaaDoorW.PrintLast Go.Proofs.YthnchjgffocigaaDoorW.PrintMore
set_option linter.unusedVariables false
set_option linter.unusedSimpArgs false
def lxLt : List Nat → List Nat → Bool
  | _, [] => false
  | [], _ :: _ => true
  | a :: s, b :: t => decide (a < b) || (decide (a = b) && lxLt s t)
theorem lx_cons {a b : Nat} {s t : List Nat} : lxLt (a :: s) (b :: t) = false ↔ ¬ a < b ∧ (a = b → lxLt s t = false) := by
  rw [lxLt]
  cases h : lxLt s t <;> simp
theorem lx_refl : ∀ s, lxLt s s = false
  | [] => rfl
  | a :: s => lx_cons.2 ⟨Nat.lt_irrefl _, fun _ => lx_refl s⟩
theorem lx_antisymm : ∀ s t, lxLt s t = false → lxLt t s = false → s = t
  | [], [], _, _ => rfl
  | [], b :: t, h, _ => by simp [lxLt] at h
  | a :: s, [], _, h => by simp [lxLt] at h
  | a :: s, b :: t, h1, h2 => by
    obtain ⟨h1, h3⟩ := lx_cons.1 h1
    obtain ⟨h2, h4⟩ := lx_cons.1 h2
    have e : a = b := by omega
    rw [e, lx_antisymm s t (h3 e) (h4 e.symm)]
theorem lx_trans : ∀ a b c, lxLt b a = false → lxLt c b = false → lxLt c a = false
  | [], _, c, _, _ => by cases c <;> rfl
  | x :: a, [], _, h, _ => by simp [lxLt] at h
  | _ :: _, y :: b, [], _, h => by simp [lxLt] at h
  | x :: a, y :: b, z :: c, h1, h2 => by
    obtain ⟨h1, h3⟩ := lx_cons.1 h1
    obtain ⟨h2, h4⟩ := lx_cons.1 h2
    exact lx_cons.2 ⟨by omega, fun e => lx_trans a b c (h3 (by omega)) (h4 (by omega))⟩
theorem lx_pre : ∀ (p : List Nat) (j i : Nat) (u v : List Nat), j < i → lxLt (p ++ i :: v) (p ++ j :: u) = false
  | [], j, i, u, v, h => lx_cons.2 ⟨by omega, fun e => by omega⟩
  | x :: p, j, i, u, v, h => lx_cons.2 ⟨Nat.lt_irrefl _, fun _ => lx_pre p j i u v h⟩
def dom (r s : List Nat) : Prop := s.length < r.length ∨ (s.length = r.length ∧ lxLt s r = false)
theorem dom_refl (r : List Nat) : dom r r := .inr ⟨rfl, lx_refl r⟩
theorem dom_trans {a b c : List Nat} (h1 : dom a b) (h2 : dom b c) : dom a c := by
  rcases h1 with h1 | ⟨h1, h3⟩
  · rcases h2 with h2 | ⟨h2, _⟩
    · exact .inl (by omega)
    · exact .inl (by omega)
  · rcases h2 with h2 | ⟨h2, h4⟩
    · exact .inl (by omega)
    · exact .inr ⟨by omega, lx_trans a b c h3 h4⟩
theorem dom_antisymm {r s : List Nat} (h1 : dom r s) (h2 : dom s r) : r = s := by
  rcases h1 with h1 | ⟨h1, h3⟩
  · rcases h2 with h2 | ⟨h2, _⟩ <;> omega
  · rcases h2 with h2 | ⟨h2, h4⟩
    · omega
    · exact lx_antisymm r s h4 h3
section
variable (n : Nat) (sh : Nat → Nat → Bool)
def ap (s : List Nat) : Prop := s.Pairwise fun a b => sh b a = false
def Va (s : List Nat) : Prop := s.Pairwise (· < ·) ∧ (∀ a ∈ s, a < n) ∧ ap sh s
def apB (s : List Nat) : Bool := decide (s.Pairwise fun a b => sh b a = false)
theorem apB_iff (s : List Nat) : apB sh s = true ↔ ap sh s := by unfold apB ap; exact decide_eq_true_iff
theorem Va_nil : Va n sh [] := ⟨List.Pairwise.nil, fun a h => (by cases h), List.Pairwise.nil⟩
def bst : Nat → Nat → List Nat → List Nat → List Nat
  | 0, _, _, best => best
  | d + 1, i, begun, best => if apB sh (begun ++ [i]) = true then bst d (i + 1) begun (if (bst d (i + 1) (begun ++ [i]) (begun ++ [i])).length > best.length then bst d (i + 1) (begun ++ [i]) (begun ++ [i]) else best) else bst d (i + 1) begun best
def Ext (begun : List Nat) (i : Nat) (s : List Nat) : Prop := Va n sh s ∧ ∃ j u, s = begun ++ j :: u ∧ i ≤ j
def Bef (begun : List Nat) (i : Nat) (s : List Nat) : Prop := s = begun ∨ ∃ j u, s = begun ++ j :: u ∧ j < i
end
section
variable {n : Nat} {sh : Nat → Nat → Bool}
theorem Va_pre {p u : List Nat} (h : Va n sh (p ++ u)) : Va n sh p := by
  obtain ⟨h1, h2, h3⟩ := h
  exact ⟨(List.pairwise_append.1 h1).1, fun a ha => h2 a (List.mem_append.2 (.inl ha)), (List.pairwise_append.1 h3).1⟩
theorem Va_snoc {p : List Nat} {i : Nat} (h : Va n sh p) (hp : ∀ a ∈ p, a < i) (hi : i < n) (ha : ap sh (p ++ [i])) : Va n sh (p ++ [i]) := by
  obtain ⟨h1, h2, h3⟩ := h
  refine ⟨List.pairwise_append.2 ⟨h1, List.pairwise_singleton _ _, fun a ha b hb => ?_⟩, fun a h => ?_, ha⟩
  · rw [List.mem_singleton.1 hb]; exact hp a ha
  · rcases List.mem_append.1 h with h | h
    · exact h2 a h
    · rw [List.mem_singleton.1 h]; exact hi
theorem bst_ok : ∀ (d i : Nat) (begun best : List Nat), i + d = n → Va n sh begun → (∀ a ∈ begun, a < i) → Va n sh best → Bef begun i best →
    Va n sh (bst sh d i begun best) ∧ dom (bst sh d i begun best) best ∧ (∀ s, Ext n sh begun i s → dom (bst sh d i begun best) s) ∧ (bst sh d i begun best = best ∨ Ext n sh begun i (bst sh d i begun best))
  | 0, i, begun, best, hd, h1, h2, h3, h4 => by
    refine ⟨h3, dom_refl _, fun s hs => ?_, .inl rfl⟩
    obtain ⟨⟨-, hv, -⟩, j, u, rfl, hj⟩ := hs
    have := hv j (by simp)
    omega
  | d + 1, i, begun, best, hd, h1, h2, h3, h4 => by
    have h4' : Bef begun (i + 1) best := h4.elim .inl fun ⟨j, u, e, hj⟩ => .inr ⟨j, u, e, by omega⟩
    have h2' : ∀ a ∈ begun, a < i + 1 := fun a ha => by have := h2 a ha; omega
    rw [bst]
    by_cases hap : apB sh (begun ++ [i]) = true
    · rw [if_pos hap]
      have hn : Va n sh (begun ++ [i]) := Va_snoc h1 h2 (by omega) ((apB_iff sh _).1 hap)
      have hn2 : ∀ a ∈ begun ++ [i], a < i + 1 := fun a ha => by
        rcases List.mem_append.1 ha with ha | ha
        · exact h2' a ha
        · rw [List.mem_singleton.1 ha]; omega
      obtain ⟨a1, a2, a3, a4⟩ := bst_ok d (i + 1) (begun ++ [i]) (begun ++ [i]) (by omega) hn hn2 hn (.inl rfl)
      generalize bst sh d (i + 1) (begun ++ [i]) (begun ++ [i]) = all at a1 a2 a3 a4 ⊢
      obtain ⟨v, hv⟩ : ∃ v, all = begun ++ i :: v := by
        rcases a4 with e | ⟨-, j, u, e, -⟩
        · exact ⟨[], e⟩
        · exact ⟨j :: u, by rw [e, List.append_assoc]; rfl⟩
      obtain ⟨best', hb'⟩ : ∃ b, b = (if all.length > best.length then all else best) := ⟨_, rfl⟩
      rw [← hb']
      have hdb : dom best' best ∧ dom best' all ∧ Va n sh best' ∧ Bef begun (i + 1) best' ∧ (best' = best ∨ best' = all) := by
        by_cases hl : all.length > best.length
        · rw [if_pos hl] at hb'
          subst hb'
          exact ⟨.inl hl, dom_refl _, a1, .inr ⟨i, v, hv, by omega⟩, .inr rfl⟩
        · rw [if_neg hl] at hb'
          subst hb'
          refine ⟨dom_refl _, ?_, h3, h4', .inl rfl⟩
          by_cases hl2 : all.length < best'.length
          · exact .inl hl2
          · refine .inr ⟨by omega, ?_⟩
            rcases h4 with e | ⟨j, u, e, hj⟩
            · rw [hv, e] at hl
              simp at hl
            · rw [hv, e]; exact lx_pre begun j i u v hj
      obtain ⟨b1, b2, b3, b4, b5⟩ := hdb
      obtain ⟨c1, c2, c3, c4⟩ := bst_ok d (i + 1) begun best' (by omega) h1 h2' b3 b4
      generalize bst sh d (i + 1) begun best' = r at c1 c2 c3 c4 ⊢
      refine ⟨c1, dom_trans c2 b1, fun s hs => ?_, ?_⟩
      · obtain ⟨hs1, j, u, e, hj⟩ := hs
        by_cases hji : j = i
        · subst hji
          refine dom_trans c2 (dom_trans b2 ?_)
          cases u with
          | nil => rw [e]; exact a2
          | cons q u =>
            refine a3 s ⟨hs1, q, u, by rw [e, List.append_assoc]; rfl, ?_⟩
            have hp := hs1.1
            rw [e] at hp
            have := (List.pairwise_cons.1 (List.pairwise_append.1 hp).2.1).1 q (by simp)
            omega
        · exact c3 s ⟨hs1, j, u, e, by omega⟩
      · rcases c4 with e | ⟨q1, j, u, e, hj⟩
        · rcases b5 with e2 | e2
          · exact .inl (e.trans e2)
          · exact .inr ⟨c1, i, v, by rw [e, e2, hv], Nat.le_refl _⟩
        · exact .inr ⟨q1, j, u, e, by omega⟩
    · rw [if_neg hap]
      obtain ⟨c1, c2, c3, c4⟩ := bst_ok d (i + 1) begun best (by omega) h1 h2' h3 h4'
      refine ⟨c1, c2, fun s hs => ?_, c4.elim .inl fun ⟨q1, j, u, e, hj⟩ => .inr ⟨q1, j, u, e, by omega⟩⟩
      obtain ⟨hs1, j, u, e, hj⟩ := hs
      by_cases hji : j = i
      · exfalso
        subst hji
        refine hap ((apB_iff sh _).2 ?_)
        have h5 : s = (begun ++ [j]) ++ u := by rw [e, List.append_assoc]; rfl
        rw [h5] at hs1
        exact (Va_pre hs1).2.2
      · exact c3 s ⟨hs1, j, u, e, by omega⟩
def mem12 (x : Nat) : List Nat := (List.range 12).filter fun i => x.testBit i
theorem mem12_lt {x n : Nat} (hx : x < 2 ^ n) {a : Nat} (h : a ∈ mem12 x) : a < n := by
  have h1 : x.testBit a = true := (List.mem_filter.1 h).2
  by_cases h2 : a < n
  · exact h2
  · have h3 : x < 2 ^ a := Nat.lt_of_lt_of_le hx (Nat.pow_le_pow_right (by omega) (by omega))
    rw [Nat.testBit_lt_two_pow h3] at h1
    cases h1
theorem mem12_up (x : Nat) : (mem12 x).Pairwise (· < ·) := List.Pairwise.filter _ List.pairwise_lt_range
theorem mem12_len (x : Nat) : (mem12 x).length ≤ 12 := Nat.le_trans (List.length_filter_le _ _) (by simp)
theorem mem12_Va {x : Nat} (hx : x < 2 ^ n) : Va n sh (mem12 x) ↔ apB sh (mem12 x) = true := by
  rw [apB_iff]
  exact ⟨fun h => h.2.2, fun h => ⟨mem12_up x, fun a ha => mem12_lt hx ha, h⟩⟩
theorem up_ext : ∀ (s t : List Nat), s.Pairwise (· < ·) → t.Pairwise (· < ·) → (∀ a, a ∈ s ↔ a ∈ t) → s = t
  | [], [], _, _, _ => rfl
  | [], b :: t, _, _, h => by have := (h b).2 (by simp); cases this
  | a :: s, [], _, _, h => by have := (h a).1 (by simp); cases this
  | a :: s, b :: t, h1, h2, h => by
    obtain ⟨h1, h3⟩ := List.pairwise_cons.1 h1
    obtain ⟨h2, h4⟩ := List.pairwise_cons.1 h2
    have e : a = b := by
      rcases List.mem_cons.1 ((h a).1 (by simp)) with e | ha
      · exact e
      · rcases List.mem_cons.1 ((h b).2 (by simp)) with e | hb
        · exact e.symm
        · have := h1 b hb; have := h2 a ha; omega
    subst e
    rw [up_ext s t h3 h4 fun x => ?_]
    constructor
    · intro hx
      rcases List.mem_cons.1 ((h x).1 (List.mem_cons.2 (.inr hx))) with e | hx2
      · have := h1 x hx; omega
      · exact hx2
    · intro hx
      rcases List.mem_cons.1 ((h x).2 (List.mem_cons.2 (.inr hx))) with e | hx2
      · have := h2 x hx; omega
      · exact hx2
def setOf : List Nat → Nat
  | [] => 0
  | a :: s => 2 ^ a ||| setOf s
theorem setOf_bit : ∀ (s : List Nat) (i : Nat), (setOf s).testBit i = decide (i ∈ s)
  | [], i => by simp [setOf]
  | a :: s, i => by
    rw [setOf, Nat.testBit_or, setOf_bit s i, Nat.testBit_two_pow]
    by_cases h : a = i
    · simp [h]
    · have h' : ¬ i = a := fun e => h e.symm
      simp [h, h']
theorem setOf_lt : ∀ (s : List Nat), (∀ a ∈ s, a < n) → setOf s < 2 ^ n
  | [], _ => Nat.two_pow_pos n
  | a :: s, h => Nat.or_lt_two_pow (Nat.pow_lt_pow_right (by omega) (h a (by simp))) (setOf_lt s fun x hx => h x (List.mem_cons.2 (.inr hx)))
theorem mem12_set {s : List Nat} (h : Va n sh s) (hn : n ≤ 12) : mem12 (setOf s) = s := by
  refine up_ext _ _ (mem12_up _) h.1 fun a => ?_
  unfold mem12
  rw [List.mem_filter, List.mem_range, setOf_bit, decide_eq_true_eq]
  exact ⟨fun h => h.2, fun ha => ⟨by have := h.2.1 a ha; omega, ha⟩⟩
variable (sh) in
def ibs : Nat → List Nat
  | 0 => []
  | x + 1 => if apB sh (mem12 x) = true ∧ (ibs x).length < (mem12 x).length ∨ apB sh (mem12 x) = true ∧ (mem12 x).length = (ibs x).length ∧ lxLt (mem12 x) (ibs x) = true then mem12 x else ibs x
theorem ibs_len (x : Nat) : (ibs sh x).length ≤ 12 := by
  induction x with
  | zero => simp [ibs]
  | succ x ih =>
    rw [ibs]
    split
    · exact mem12_len x
    · exact ih
theorem lx_total : ∀ s t, lxLt s t = true → lxLt t s = false
  | _, [], h => by simp [lxLt] at h
  | [], _ :: _, _ => rfl
  | a :: s, b :: t, h => by
    rw [lxLt] at h
    simp only [Bool.or_eq_true, decide_eq_true_eq, Bool.and_eq_true] at h
    refine lx_cons.2 ⟨by omega, fun e => lx_total s t ?_⟩
    rcases h with h | h
    · omega
    · exact h.2
theorem ibs_ok : ∀ x, x ≤ 2 ^ n → Va n sh (ibs sh x) ∧ ∀ y, y < x → Va n sh (mem12 y) → dom (ibs sh x) (mem12 y)
  | 0, _ => ⟨Va_nil n sh, fun y hy => by omega⟩
  | x + 1, hx => by
    obtain ⟨h1, h2⟩ := ibs_ok x (by omega)
    have hv := mem12_Va (n := n) (sh := sh) (x := x) (by omega)
    rw [ibs]
    split
    · rename_i h
      have hap : apB sh (mem12 x) = true := h.elim (·.1) (·.1)
      have hd : dom (mem12 x) (ibs sh x) := by
        rcases h with h | h
        · exact .inl h.2
        · exact .inr ⟨h.2.1.symm, lx_total _ _ h.2.2⟩
      refine ⟨hv.2 hap, fun y hy hvy => ?_⟩
      by_cases e : y = x
      · subst e; exact dom_refl _
      · exact dom_trans hd (h2 y (by omega) hvy)
    · rename_i h
      refine ⟨h1, fun y hy hvy => ?_⟩
      by_cases e : y = x
      · subst e
        have hap := hv.1 hvy
        by_cases hl : (mem12 y).length < (ibs sh y).length
        · exact .inl hl
        · have hl2 : ¬ (ibs sh y).length < (mem12 y).length := fun q => h (.inl ⟨hap, q⟩)
          have hl3 : (mem12 y).length = (ibs sh y).length := by omega
          refine .inr ⟨hl3, ?_⟩
          cases hq : lxLt (mem12 y) (ibs sh y) with
          | false => rfl
          | true => exact absurd (.inr ⟨hap, hl3, hq⟩) h
      · exact h2 y (by omega) hvy
theorem bst_ibs (hn : n ≤ 12) : bst sh n 0 [] [] = ibs sh (2 ^ n) := by
  obtain ⟨a1, a2, a3, -⟩ := bst_ok (n := n) (sh := sh) n 0 [] [] (by omega) (Va_nil n sh) (fun a h => by cases h) (Va_nil n sh) (.inl rfl)
  obtain ⟨b1, b2⟩ := ibs_ok (n := n) (sh := sh) (2 ^ n) (Nat.le_refl _)
  refine dom_antisymm ?_ ?_
  · cases h : ibs sh (2 ^ n) with
    | nil => exact a2
    | cons j u =>
      rw [h] at b1
      exact a3 _ ⟨b1, j, u, rfl, by omega⟩
  · have h1 := mem12_set a1 hn
    have h2 := b2 (setOf (bst sh n 0 [] [])) (setOf_lt _ a1.2.1) (by rw [h1]; exact a1)
    rw [h1] at h2
    exact h2
end
end Go.Proofs.YthnchjgffocigaaDoor.P
end
section
namespace Go.Proofs.YthnchjgffocigaaDoor.P
open Go.RowKit Go.Proofs.YthnchjgffocigaaDoorW.PrintWords Go.Proofs.YthnchjgffocigaaDoorW.PrintLast Go.Proofs.YthnchjgffocigaaDoorW.PrintMore
set_option linter.unusedVariables false
set_option linter.unusedSimpArgs false
theorem iz_rd (s : List Nat) (j : Nat) : rd (iz s) (j : Int) = ((s.getD j 0 : Nat) : Int) := by
  unfold rd iz
  rw [Int.toNat_natCast, List.getD_eq_getElem?_getD, List.getD_eq_getElem?_getD, List.getElem?_map]
  cases s[j]? <;> rfl
theorem getD_lt {s : List Nat} {n j : Nat} (hs : ∀ a ∈ s, a < n) (h : j < s.length) : s.getD j 0 < n := hs _ (getD_mem s 0 j h)
theorem ap_iff_at (sh : Nat → Nat → Bool) (s : List Nat) : apB sh s = true ↔ ∀ i j, i < s.length → j < i → sh (s.getD i 0) (s.getD j 0) = false := by
  rw [apB_iff]
  unfold ap
  rw [List.pairwise_iff_getElem]
  constructor
  · intro h i j hi hj
    have := h j i (by omega) hi hj
    rwa [List.getD_eq_getElem?_getD, List.getD_eq_getElem?_getD, List.getElem?_eq_getElem hi, List.getElem?_eq_getElem (show j < s.length by omega)]
  · intro h j i hj hi hlt
    have := h i j hi hlt
    rwa [List.getD_eq_getElem?_getD, List.getD_eq_getElem?_getD, List.getElem?_eq_getElem hi, List.getElem?_eq_getElem hj] at this
section
variable {l : List S28}
theorem ovW (hok : grpOk l = true) {a b : Nat} (ha : a < l.length) (hb : b < l.length) : spec_l2Overlap.f (rd_T28 l (a : Int)).f0 (rd_T28 l (a : Int)).f1 (rd_T28 l (a : Int)).f2 (rd_T28 l (a : Int)).f3 (rd_T28 l (b : Int)).f0 (rd_T28 l (b : Int)).f1 (rd_T28 l (b : Int)).f2 (rd_T28 l (b : Int)).f3 = some (ov (rd_T28 l a).f0 (rd_T28 l a).f1 (rd_T28 l a).f2 (rd_T28 l b).f0 (rd_T28 l b).f1 (rd_T28 l b).f2) :=
  overlap_eq _ _ _ _ _ _ _ _ ((grpOk_at hok).2 a ha) ((grpOk_at hok).2 b hb)
theorem shdW (hok : grpOk l = true) {a b : Nat} (ha : a < l.length) (hb : b < l.length) : impl_areShared.f (rd_T28 l (a : Int)).f0 (rd_T28 l (a : Int)).f1 (rd_T28 l (a : Int)).f2 (rd_T28 l (a : Int)).f3 (rd_T28 l (b : Int)).f0 (rd_T28 l (b : Int)).f1 (rd_T28 l (b : Int)).f2 (rd_T28 l (b : Int)).f3 = some (shW l a b) :=
  shared_eq _ _ _ _ _ _ _ _ ((grpOk_at hok).2 a ha) ((grpOk_at hok).2 b hb)
theorem apart_l1 (hok : grpOk l = true) {s : List Nat} (hs : ∀ a ∈ s, a < l.length) (hlen : s.length ≤ 1000) {i : Nat} (hi : i < s.length) {r : Bool}
    (hc : (∀ j, j < i → shW l (s.getD i 0) (s.getD j 0) = false) → Ev (fun k => spec_l3Apart.l0 k l (iz s) ((i + 1 : Nat) : Int)) r) (hf : (∃ j, j < i ∧ shW l (s.getD i 0) (s.getD j 0) = true) → r = false) :
    ∀ d j : Nat, j + d = i → (∀ j', j' < j → shW l (s.getD i 0) (s.getD j' 0) = false) → Ev (fun k => spec_l3Apart.l1 k l (iz s) (i : Int) (j : Int)) r
  | 0, j, hj, hd => by
    refine Ev.step (f := fun k => spec_l3Apart.l0 k l (iz s) ((i + 1 : Nat) : Int)) (fun k => ?_) (hc fun j' h' => hd j' (by omega))
    rw [spec_l3Apart.l1, if_neg (by omega), wrap_succ i (by omega)]
  | d + 1, j, hj, hd => by
    have h1 := getD_lt hs hi
    have h2 := getD_lt hs (show j < s.length by omega)
    have hl := iz_len s
    have e : ∀ k, spec_l3Apart.l1 (k + 1) l (iz s) (i : Int) (j : Int) = if shW l (s.getD i 0) (s.getD j 0) = true then some false else spec_l3Apart.l1 k l (iz s) (i : Int) ((j + 1 : Nat) : Int) := by
      intro k
      rw [spec_l3Apart.l1, if_pos (by omega), if_pos (by omega), if_pos (by omega), iz_rd, iz_rd, if_pos (by omega), if_pos (by omega), if_pos (by omega), if_pos (by omega), if_pos (by omega), if_pos (by omega), ovW hok h1 h2, Option.bind_some, wrap_succ j (by omega)]
      unfold shW
      by_cases h : 0 < ov (rd_T28 l ((s.getD i 0 : Nat) : Int)).f0 (rd_T28 l ((s.getD i 0 : Nat) : Int)).f1 (rd_T28 l ((s.getD i 0 : Nat) : Int)).f2 (rd_T28 l ((s.getD j 0 : Nat) : Int)).f0 (rd_T28 l ((s.getD j 0 : Nat) : Int)).f1 (rd_T28 l ((s.getD j 0 : Nat) : Int)).f2
      · rw [if_pos (by omega), if_pos (decide_eq_true h)]
      · rw [if_neg (by omega), if_neg (by rw [decide_eq_false h]; decide)]
    by_cases h : shW l (s.getD i 0) (s.getD j 0) = true
    · have hr := hf ⟨j, by omega, h⟩
      subst hr
      exact Ev.end_ fun k => by rw [e, if_pos h]
    · refine Ev.step (f := fun k => spec_l3Apart.l1 k l (iz s) (i : Int) ((j + 1 : Nat) : Int)) (fun k => by rw [e, if_neg h]) (apart_l1 hok hs hlen hi hc hf d (j + 1) (by omega) fun j' h' => ?_)
      by_cases e' : j' = j
      · subst e'; simpa using h
      · exact hd j' (by omega)
theorem apart_l0 (hok : grpOk l = true) {s : List Nat} (hs : ∀ a ∈ s, a < l.length) (hlen : s.length ≤ 1000) : ∀ (d i : Nat), i + d = s.length → ∀ r : Bool, (r = true ↔ ∀ i' j', i ≤ i' → i' < s.length → j' < i' → shW l (s.getD i' 0) (s.getD j' 0) = false) → Ev (fun k => spec_l3Apart.l0 k l (iz s) (i : Int)) r
  | 0, i, hd, r, hr => by
    have e : r = true := hr.2 fun i' j' h1 h2 h3 => by omega
    subst e
    have hl := iz_len s
    exact Ev.end_ fun k => by rw [spec_l3Apart.l0, if_neg (by omega)]
  | d + 1, i, hd, r, hr => by
    have hl := iz_len s
    refine Ev.step (f := fun k => spec_l3Apart.l1 k l (iz s) (i : Int) ((0 : Nat) : Int)) (fun k => by rw [spec_l3Apart.l0, if_pos (by omega)]; rfl) (apart_l1 hok hs hlen (by omega) (fun h => apart_l0 hok hs hlen d (i + 1) (by omega) r ?_) (fun ⟨j, hj, h⟩ => ?_) i 0 (by omega) fun j' h' => by omega)
    · rw [hr]
      constructor
      · exact fun q i' j' h1 h2 h3 => q i' j' (by omega) h2 h3
      · intro q i' j' h1 h2 h3
        by_cases e : i' = i
        · subst e; exact h j' h3
        · exact q i' j' (by omega) h2 h3
    · cases r with
      | false => rfl
      | true =>
        have := hr.1 rfl i j (Nat.le_refl _) (by omega) hj
        rw [this] at h
        cases h
theorem apart_ev (hok : grpOk l = true) {s : List Nat} (hs : ∀ a ∈ s, a < l.length) (hlen : s.length ≤ 1000) : Ev (fun k => spec_l3Apart.f k l (iz s)) (apB (shW l) s) :=
  apart_l0 hok hs hlen s.length 0 (by omega) _ (by rw [ap_iff_at]; exact ⟨fun h i j _ h2 h3 => h i j h2 h3, fun h i j h2 h3 => h i j (by omega) h2 h3⟩)
theorem own_iz {s : List Nat} (h : s.length ≤ 1000) : spec_l1Own.f (iz s) = some (iz s) := by
  unfold spec_l1Own.f
  rw [Option.bind_some, if_pos (by rw [List.length_nil, iz_len]; omega)]
  rfl
theorem best_l0 (hok : grpOk l = true) : ∀ (d i : Nat) (begun best : List Nat), i + d = l.length → (∀ a ∈ begun, a < l.length) → begun.length ≤ i →
    Ev (fun k => spec_l3Best.l0 k l (iz begun) (iz best) (i : Int)) (iz (bst (shW l) d i begun best))
  | 0, i, begun, best, hd, h1, h2 => Ev.end_ fun k => by rw [spec_l3Best.l0, if_neg (by omega)]; rfl
  | d + 1, i, begun, best, hd, h1, h2 => by
    have hn := (grpOk_at hok).1
    have h3 : ∀ a ∈ begun ++ [i], a < l.length := fun a ha => by
      rcases List.mem_append.1 ha with ha | ha
      · exact h1 a ha
      · rw [List.mem_singleton.1 ha]; omega
    have h4 : (begun ++ [i]).length = begun.length + 1 := by simp
    obtain ⟨K1, e1⟩ := apart_ev hok h3 (by omega)
    obtain ⟨K2, e2⟩ := best_l0 hok d (i + 1) (begun ++ [i]) (begun ++ [i]) (by omega) h3 (by omega)
    rw [bst]
    have e0 : ∀ k, K1 ≤ k → spec_l3Best.l0 (k + 1) l (iz begun) (iz best) (i : Int) = if apB (shW l) (begun ++ [i]) = true then ((spec_l3Best.f k l (iz (begun ++ [i])) ((i + 1 : Nat) : Int)).bind fun t => if (t.length : Int) > ((iz best).length : Int) then spec_l3Best.l0 k l (iz begun) t ((i + 1 : Nat) : Int) else spec_l3Best.l0 k l (iz begun) (iz best) ((i + 1 : Nat) : Int)) else spec_l3Best.l0 k l (iz begun) (iz best) ((i + 1 : Nat) : Int) := by
      intro k hk
      have := e1 k hk
      dsimp only at this
      rw [spec_l3Best.l0, if_pos (by omega), own_iz (by omega), Option.bind_some, if_pos (by rw [iz_len]; omega), Option.bind_some, ← iz_snoc, this, Option.bind_some, wrap_succ i (by omega)]
    by_cases hap : apB (shW l) (begun ++ [i]) = true
    · rw [if_pos hap]
      generalize bst (shW l) d (i + 1) (begun ++ [i]) (begun ++ [i]) = all at e2 ⊢
      obtain ⟨K3, e3⟩ := best_l0 hok d (i + 1) begun (if all.length > best.length then all else best) (by omega) h1 (by omega)
      refine ⟨K1 + K2 + K3 + 2, fun k hk => ?_⟩
      obtain ⟨k, rfl⟩ : ∃ j, k = j + 1 + 1 := ⟨k - 2, by omega⟩
      have g2 := e2 k (by omega)
      have g3 := e3 (k + 1) (by omega)
      dsimp only at g2 g3 ⊢
      rw [e0 (k + 1) (by omega), if_pos hap, spec_l3Best.f, g2, Option.bind_some]
      rw [iz_len, iz_len]
      by_cases hl : all.length > best.length
      · rw [if_pos (by omega)]
        rw [if_pos hl] at g3 ⊢
        exact g3
      · rw [if_neg (by omega)]
        rw [if_neg hl] at g3 ⊢
        exact g3
    · rw [if_neg hap]
      obtain ⟨K3, e3⟩ := best_l0 hok d (i + 1) begun best (by omega) h1 (by omega)
      refine ⟨K1 + K3 + 1, fun k hk => ?_⟩
      obtain ⟨k, rfl⟩ : ∃ j, k = j + 1 := ⟨k - 1, by omega⟩
      have g3 := e3 k (by omega)
      dsimp only at g3 ⊢
      rw [e0 k (by omega), if_neg hap]
      exact g3
theorem best_spec (hok : grpOk l = true) : Ev (fun k => spec_l3Best.f k l [] 0) (iz (bst (shW l) l.length 0 [] [])) :=
  Ev.step (f := fun k => spec_l3Best.l0 k l (iz []) (iz []) ((0 : Nat) : Int)) (fun k => by rw [spec_l3Best.f]; rfl) (best_l0 hok l.length 0 [] [] (by omega) (fun a h => by cases h) (by simp))
theorem and64 (a b : Nat) (ha : a < 9223372036854775808) (hb : b < 9223372036854775808) : bits .and .i64 (a : Int) (b : Int) = ((a &&& b : Nat) : Int) := by
  have hx : a &&& b ≤ a := Nat.and_le_left
  have h1 : (BitVec.ofInt 64 (a : Int)).toNat = a := by
    rw [BitVec.ofInt_natCast, BitVec.toNat_ofNat]; exact Nat.mod_eq_of_lt (by omega)
  have h2 : (BitVec.ofInt 64 (b : Int)).toNat = b := by
    rw [BitVec.ofInt_natCast, BitVec.toNat_ofNat]; exact Nat.mod_eq_of_lt (by omega)
  show IntKind.i64.wrap ((BitVec.ofInt 64 (a : Int) &&& BitVec.ofInt 64 (b : Int)).toNat : Int) = _
  rw [BitVec.toNat_and, h1, h2, IntKind.wrap_i64]
  omega
def lpO : Nat → Nat → List Nat → Option (List Nat)
  | 0, _, _ => none
  | f + 1, x, acc => if x = 0 then some acc else lpO f (x &&& (x - 1)) (acc ++ [Lib.ctz 64 x])
theorem lpO_all : ∀ a, a < 64 → ∀ b, b < 64 → lpO 13 (64 * a + b) [] = some (mem12 (64 * a + b)) := by decide +kernel
theorem lpO_at {x : Nat} (hx : x < 4096) : lpO 13 x [] = some (mem12 x) := by
  have := lpO_all (x / 64) (by omega) (x % 64) (by omega)
  rwa [show 64 * (x / 64) + x % 64 = x by omega] at this
theorem members_l0 : ∀ (k x : Nat) (acc : List Nat), x < 9223372036854775808 → acc.length + k ≤ 1000 → impl_membersOf.l0 k (x : Int) (iz acc) = (lpO k x acc).map iz
  | 0, x, acc, _, _ => rfl
  | k + 1, x, acc, hx, hk => by
    rw [impl_membersOf.l0, lpO]
    by_cases h : x = 0
    · rw [if_pos (by omega), if_pos h]; rfl
    · have ew : IntKind.u64.wrap (x : Int) = (x : Int) := by rw [IntKind.wrap_u64]; omega
      have ez : bits_TrailingZeros.f (x : Int) = some (Lib.ctz 64 x : Int) := by unfold bits_TrailingZeros.f; rw [if_pos (by omega), Int.toNat_natCast]
      have e1 : wrap64 ((x : Int) - 1) = ((x - 1 : Nat) : Int) := by unfold wrap64; omega
      rw [if_neg (by omega), if_neg h, ew, ez, Option.bind_some, if_pos (by rw [iz_len]; omega), e1, and64 x (x - 1) hx (by omega), ← iz_snoc, members_l0 k (x &&& (x - 1)) (acc ++ [Lib.ctz 64 x]) (Nat.lt_of_le_of_lt Nat.and_le_left hx) (by simp; omega)]
theorem members_ev {x : Nat} (hx : x < 4096) : Ev (fun k => impl_membersOf.f k (x : Int)) (iz (mem12 x)) := by
  refine Ev.of (impl_membersOf.mono (x : Int)) (k := 13) ?_
  unfold impl_membersOf.f
  have := members_l0 13 x [] (by omega) (by simp)
  rw [lpO_at hx] at this
  exact this
theorem cmp_eq (a b : Int) : cmp_Compare_int.f a b = some (if a < b then -1 else if a > b then 1 else 0) := by
  have h : ∀ x : Int, cmp_isNaN_int.f x = some false := fun x => by unfold cmp_isNaN_int.f; simp
  unfold cmp_Compare_int.f
  rw [h, h, Option.bind_some, Option.bind_some, if_neg (by decide), if_neg (by decide)]
  split
  · rfl
  · split <;> rfl
theorem compare_l0 {s t : List Nat} (hst : s.length = t.length) (hlen : s.length ≤ 1000) : ∀ (d i : Nat), i + d = s.length →
    ∃ c : Int, Ev (fun k => slices_Compare_int_int.l0 k (iz s) (iz t) (iz s) ((iz s).length : Int) (i : Int)) c ∧ (c < 0 ↔ lxLt (s.drop i) (t.drop i) = true)
  | 0, i, hd => by
    have h1 := iz_len s
    have h2 := iz_len t
    refine ⟨0, Ev.end_ fun k => by rw [slices_Compare_int_int.l0, if_neg (by omega), if_neg (by omega)], ?_⟩
    rw [List.drop_eq_nil_of_le (show s.length ≤ i by omega), List.drop_eq_nil_of_le (show t.length ≤ i by omega)]
    simp [lxLt]
  | d + 1, i, hd => by
    have h1 := iz_len s
    have h2 := iz_len t
    have e : ∀ k, slices_Compare_int_int.l0 (k + 1) (iz s) (iz t) (iz s) ((iz s).length : Int) (i : Int) = if s.getD i 0 = t.getD i 0 then slices_Compare_int_int.l0 k (iz s) (iz t) (iz s) ((iz s).length : Int) ((i + 1 : Nat) : Int) else some (if s.getD i 0 < t.getD i 0 then -1 else 1) := by
      intro k
      rw [slices_Compare_int_int.l0, if_pos (by omega), if_pos (by omega), if_pos (by omega), if_neg (by omega), if_pos (by omega), iz_rd, iz_rd, cmp_eq, Option.bind_some, wrap_succ i (by omega)]
      by_cases ha : s.getD i 0 = t.getD i 0
      · have e3 : (if ((s.getD i 0 : Nat) : Int) < ((t.getD i 0 : Nat) : Int) then (-1 : Int) else if ((s.getD i 0 : Nat) : Int) > ((t.getD i 0 : Nat) : Int) then 1 else 0) = 0 := by rw [if_neg (by omega), if_neg (by omega)]
        rw [e3, if_pos rfl, if_pos ha]
      · rw [if_neg ha]
        by_cases hb : s.getD i 0 < t.getD i 0
        · have e3 : (if ((s.getD i 0 : Nat) : Int) < ((t.getD i 0 : Nat) : Int) then (-1 : Int) else if ((s.getD i 0 : Nat) : Int) > ((t.getD i 0 : Nat) : Int) then 1 else 0) = -1 := by rw [if_pos (by omega)]
          rw [e3, if_pos hb, if_neg (by decide)]
        · have e3 : (if ((s.getD i 0 : Nat) : Int) < ((t.getD i 0 : Nat) : Int) then (-1 : Int) else if ((s.getD i 0 : Nat) : Int) > ((t.getD i 0 : Nat) : Int) then 1 else 0) = 1 := by rw [if_neg (by omega), if_pos (by omega)]
          rw [e3, if_neg hb, if_neg (by decide)]
    rw [drop_cons s 0 i (by omega), drop_cons t 0 i (by omega), lxLt]
    by_cases ha : s.getD i 0 = t.getD i 0
    · obtain ⟨c, hc, hi⟩ := compare_l0 hst hlen d (i + 1) (by omega)
      refine ⟨c, Ev.step (f := fun k => slices_Compare_int_int.l0 k (iz s) (iz t) (iz s) ((iz s).length : Int) ((i + 1 : Nat) : Int)) (fun k => by rw [e, if_pos ha]) hc, hi.trans ?_⟩
      rw [decide_eq_false (show ¬ s.getD i 0 < t.getD i 0 by omega), decide_eq_true ha]
      simp
    · refine ⟨if s.getD i 0 < t.getD i 0 then -1 else 1, Ev.end_ fun k => by rw [e, if_neg ha], ?_⟩
      rw [decide_eq_false ha]
      by_cases hb : s.getD i 0 < t.getD i 0
      · rw [if_pos hb, decide_eq_true hb]; simp
      · rw [if_neg hb, decide_eq_false hb]; simp
theorem compare_ev {s t : List Nat} (hst : s.length = t.length) (hlen : s.length ≤ 1000) : ∃ c : Int, Ev (fun k => slices_Compare_int_int.f k (iz s) (iz t)) c ∧ (c < 0 ↔ lxLt s t = true) := by
  obtain ⟨c, h1, h2⟩ := compare_l0 hst hlen s.length 0 (by omega)
  exact ⟨c, h1, h2⟩
def bpost (l : List S28) (k : Nat) (best s : List Nat) (N : Int) (x : Nat) (b : Bool) : Option (List Int × Bool) :=
  if b = true then (if ((iz s).length : Int) > ((iz best).length : Int) then impl_MostApart.l0 k l (iz s) N (wrap64 ((x : Int) + 1)) else (if ((iz s).length : Int) = ((iz best).length : Int) then ((slices_Compare_int_int.f k (iz s) (iz best)).bind fun t => (if t < 0 then (impl_MostApart.l0 k l (iz s) N (wrap64 ((x : Int) + 1))) else (impl_MostApart.l0 k l (iz best) N (wrap64 ((x : Int) + 1))))) else (impl_MostApart.l0 k l (iz best) N (wrap64 ((x : Int) + 1))))) else (impl_MostApart.l0 k l (iz best) N (wrap64 ((x : Int) + 1)))
theorem iz_take (s : List Nat) (i : Nat) : (iz s).take i = iz (s.take i) := by unfold iz; rw [List.map_take]
theorem take_getD {s : List Nat} {i j : Nat} (h : j < i) : (s.take i).getD j 0 = s.getD j 0 := by
  rw [List.getD_eq_getElem?_getD, List.getD_eq_getElem?_getD, List.getElem?_take, if_pos h]
theorem all_l2 (hok : grpOk l = true) {s best : List Nat} (hs : ∀ a ∈ s, a < l.length) (hlen : s.length ≤ 1000) {N : Int} {x i : Nat} (hi : i < s.length) {r : List Int × Bool} :
    ∀ (d j : Nat) (fits : Bool), j + d = i →
    (∀ b : Bool, (b = true ↔ fits = true ∧ ∀ j', j ≤ j' → j' < i → shW l (s.getD i 0) (s.getD j' 0) = false) → Ev (fun k => impl_MostApart.l1 k l (iz best) (iz s) b N (x : Int) (iz s) ((iz s).length : Int) ((i + 1 : Nat) : Int)) r) →
    Ev (fun k => impl_MostApart.l2 k l (iz best) (iz s) fits (rd (iz s) (i : Int)) N (x : Int) (iz s) ((iz s).length : Int) (i : Int) (iz (s.take i)) ((iz (s.take i)).length : Int) (j : Int)) r
  | 0, j, fits, hd, hc => by
    have hl := iz_len (s.take i)
    rw [List.length_take] at hl
    refine Ev.step (f := fun k => impl_MostApart.l1 k l (iz best) (iz s) fits N (x : Int) (iz s) ((iz s).length : Int) ((i + 1 : Nat) : Int)) (fun k => ?_) (hc fits ⟨fun h => ⟨h, fun j' h1 h2 => by omega⟩, fun h => h.1⟩)
    rw [impl_MostApart.l2, if_neg (by omega), wrap_succ i (by omega)]
  | d + 1, j, fits, hd, hc => by
    have hl := iz_len (s.take i)
    rw [List.length_take] at hl
    have h1 := getD_lt hs hi
    have h2 := getD_lt hs (show j < s.length by omega)
    have e : ∀ k, impl_MostApart.l2 (k + 1) l (iz best) (iz s) fits (rd (iz s) (i : Int)) N (x : Int) (iz s) ((iz s).length : Int) (i : Int) (iz (s.take i)) ((iz (s.take i)).length : Int) (j : Int) = impl_MostApart.l2 k l (iz best) (iz s) (fits && !shW l (s.getD i 0) (s.getD j 0)) (rd (iz s) (i : Int)) N (x : Int) (iz s) ((iz s).length : Int) (i : Int) (iz (s.take i)) ((iz (s.take i)).length : Int) ((j + 1 : Nat) : Int) := by
      intro k
      rw [impl_MostApart.l2, if_pos (by omega), if_pos (by omega), if_pos (by omega), wrap_succ j (by omega)]
      cases fits with
      | false => rw [if_neg (by decide)]; rfl
      | true =>
        have e2 : rd (iz (s.take i)) (j : Int) = ((s.getD j 0 : Nat) : Int) := by rw [iz_rd, take_getD (by omega)]
        have e3 : rd (iz s) (i : Int) = ((s.getD i 0 : Nat) : Int) := iz_rd s i
        rw [if_pos rfl, e2, e3, if_pos (by omega), if_pos (by omega), if_pos (by omega), if_pos (by omega), shdW hok h1 h2, Option.bind_some, Bool.true_and]
    refine Ev.step (fun k => e k) (all_l2 hok hs hlen hi d (j + 1) _ (by omega) fun b hb => hc b (hb.trans ?_))
    rw [Bool.and_eq_true]
    constructor
    · rintro ⟨⟨q1, q2⟩, q3⟩
      refine ⟨q1, fun j' g1 g2 => ?_⟩
      by_cases e' : j' = j
      · subst e'; simpa using q2
      · exact q3 j' (by omega) g2
    · rintro ⟨q1, q3⟩
      exact ⟨⟨q1, by rw [q3 j (Nat.le_refl _) (by omega)]; rfl⟩, fun j' g1 g2 => q3 j' (by omega) g2⟩
theorem all_l1 (hok : grpOk l = true) {s best : List Nat} (hs : ∀ a ∈ s, a < l.length) (hlen : s.length ≤ 1000) {N : Int} {x : Nat} {r : List Int × Bool} :
    ∀ (d i : Nat) (fits : Bool), i + d = s.length →
    (∀ b : Bool, (b = true ↔ fits = true ∧ ∀ i' j', i ≤ i' → i' < s.length → j' < i' → shW l (s.getD i' 0) (s.getD j' 0) = false) → Ev (fun k => bpost l k best s N x b) r) →
    Ev (fun k => impl_MostApart.l1 k l (iz best) (iz s) fits N (x : Int) (iz s) ((iz s).length : Int) (i : Int)) r
  | 0, i, fits, hd, hc => by
    have hl := iz_len s
    refine Ev.step (f := fun k => bpost l k best s N x fits) (fun k => ?_) (hc fits ⟨fun h => ⟨h, fun i' j' h1 h2 h3 => by omega⟩, fun h => h.1⟩)
    rw [impl_MostApart.l1, if_neg (by omega)]
    rfl
  | d + 1, i, fits, hd, hc => by
    have hl := iz_len s
    refine Ev.step (f := fun k => impl_MostApart.l2 k l (iz best) (iz s) fits (rd (iz s) (i : Int)) N (x : Int) (iz s) ((iz s).length : Int) (i : Int) (iz (s.take i)) ((iz (s.take i)).length : Int) ((0 : Nat) : Int)) (fun k => ?_) (all_l2 hok hs hlen (by omega) i 0 fits (by omega) fun b hb => all_l1 hok hs hlen d (i + 1) b (by omega) fun b2 hb2 => hc b2 (hb2.trans ?_))
    · rw [impl_MostApart.l1, if_pos (by omega), if_pos (by omega), if_pos (by omega), if_pos (by omega), Option.bind_some, Int.toNat_natCast, iz_take]
      rfl
    · rw [hb]
      constructor
      · rintro ⟨⟨q1, q2⟩, q3⟩
        refine ⟨q1, fun i' j' g1 g2 g3 => ?_⟩
        by_cases e' : i' = i
        · subst e'; exact q2 j' (by omega) g3
        · exact q3 i' j' (by omega) g2 g3
      · rintro ⟨q1, q3⟩
        exact ⟨⟨q1, fun j' g1 g2 => q3 i j' (Nat.le_refl _) (by omega) g2⟩, fun i' j' g1 g2 g3 => q3 i' j' (by omega) g2 g3⟩
theorem all_l0 (hok : grpOk l = true) : ∀ (d x : Nat), x + d = 2 ^ l.length → Ev (fun k => impl_MostApart.l0 k l (iz (ibs (shW l) x)) ((2 ^ l.length : Nat) : Int) (x : Int)) (iz (ibs (shW l) (2 ^ l.length)), true)
  | 0, x, hd => by
    rw [show x = 2 ^ l.length by omega]
    exact Ev.end_ fun k => by rw [impl_MostApart.l0, if_neg (by omega)]
  | d + 1, x, hd => by
    have hn := (grpOk_at hok).1
    have hp : 2 ^ l.length ≤ 2 ^ 12 := Nat.pow_le_pow_right (by omega) hn
    have hm : ∀ a ∈ mem12 x, a < l.length := fun a ha => mem12_lt (by omega) ha
    have hml := mem12_len x
    have hbl := ibs_len (sh := shW l) x
    have ih := all_l0 hok d (x + 1) (by omega)
    have hw : wrap64 ((x : Int) + 1) = ((x + 1 : Nat) : Int) := wrap_succ x (by omega)
    have hpost : ∀ b : Bool, (b = true ↔ apB (shW l) (mem12 x) = true) → Ev (fun k => bpost l k (ibs (shW l) x) (mem12 x) ((2 ^ l.length : Nat) : Int) x b) (iz (ibs (shW l) (2 ^ l.length)), true) := by
      intro b hb
      rw [ibs] at ih
      have h1 := iz_len (mem12 x)
      have h2 := iz_len (ibs (shW l) x)
      obtain ⟨K, hK⟩ := ih
      unfold bpost
      rw [hw]
      by_cases hap : apB (shW l) (mem12 x) = true
      · have hbt := hb.2 hap
        subst hbt
        by_cases hl1 : (ibs (shW l) x).length < (mem12 x).length
        · rw [if_pos (.inl ⟨hap, hl1⟩)] at hK
          refine ⟨K, fun k hk => ?_⟩
          dsimp only
          rw [if_pos rfl, if_pos (by omega)]
          exact hK k hk
        · by_cases hl2 : (mem12 x).length = (ibs (shW l) x).length
          · obtain ⟨c, ⟨K2, h4⟩, h5⟩ := compare_ev hl2 (by omega)
            by_cases hx : lxLt (mem12 x) (ibs (shW l) x) = true
            · rw [if_pos (.inr ⟨hap, hl2, hx⟩)] at hK
              refine ⟨K + K2, fun k hk => ?_⟩
              have g := h4 k (by omega)
              dsimp only at g ⊢
              rw [if_pos rfl, if_neg (by omega), if_pos (by omega), g, Option.bind_some, if_pos (h5.2 hx)]
              exact hK k (by omega)
            · rw [if_neg (fun h => h.elim (fun h => hl1 h.2) (fun h => hx h.2.2))] at hK
              refine ⟨K + K2, fun k hk => ?_⟩
              have g := h4 k (by omega)
              dsimp only at g ⊢
              rw [if_pos rfl, if_neg (by omega), if_pos (by omega), g, Option.bind_some, if_neg (fun h => hx (h5.1 h))]
              exact hK k (by omega)
          · rw [if_neg (fun h => h.elim (fun h => hl1 h.2) (fun h => hl2 h.2.1))] at hK
            refine ⟨K, fun k hk => ?_⟩
            dsimp only
            rw [if_pos rfl, if_neg (by omega), if_neg (by omega)]
            exact hK k hk
      · have hbf : b = false := by cases b with | false => rfl | true => exact absurd (hb.1 rfl) hap
        subst hbf
        rw [if_neg (fun h => h.elim (fun h => hap h.1) (fun h => hap h.1))] at hK
        exact ⟨K, fun k hk => by dsimp only; rw [if_neg (by decide)]; exact hK k hk⟩
    obtain ⟨K1, e1⟩ := members_ev (x := x) (by omega)
    obtain ⟨K2, e2⟩ := all_l1 hok (best := ibs (shW l) x) hm (by omega) (N := ((2 ^ l.length : Nat) : Int)) (x := x) (mem12 x).length 0 true (by omega) fun b hb => hpost b (hb.trans (by rw [ap_iff_at]; exact ⟨fun h i j h2 h3 => h.2 i j (by omega) h2 h3, fun h => ⟨rfl, fun i j _ h2 h3 => h i j h2 h3⟩⟩))
    refine ⟨K1 + K2 + 1, fun k hk => ?_⟩
    obtain ⟨k, rfl⟩ : ∃ j, k = j + 1 := ⟨k - 1, by omega⟩
    have g1 := e1 k (by omega)
    have g2 := e2 k (by omega)
    dsimp only at g1 g2 ⊢
    rw [impl_MostApart.l0, if_pos (by omega), g1, Option.bind_some]
    exact g2
theorem shl_two {n : Nat} (h : n ≤ 12) : shl .i64 1 (n : Int) = ((2 ^ n : Nat) : Int) := by
  have hp : 2 ^ n ≤ 2 ^ 12 := Nat.pow_le_pow_right (by omega) h
  unfold shl
  rw [show IntKind.i64.bits = 64 from rfl, Int.toNat_natCast, Nat.min_eq_left (by omega), IntKind.wrap_i64, Int.one_mul]
  have e : ((2 : Int) ^ n) = ((2 ^ n : Nat) : Int) := by rw [Int.natCast_pow]; rfl
  rw [e]
  generalize 2 ^ n = q at hp ⊢
  omega
theorem best_impl (hok : grpOk l = true) : Ev (fun k => impl_MostApart.l0 k l [] (shl .i64 1 (l.length : Int)) 0) (iz (bst (shW l) l.length 0 [] []), true) := by
  have hn := (grpOk_at hok).1
  rw [shl_two hn, bst_ibs hn]
  exact all_l0 hok (2 ^ l.length) 0 (by omega)
theorem bst_len (hok : grpOk l = true) : (bst (shW l) l.length 0 [] []).length ≤ 12 := by
  rw [bst_ibs (grpOk_at hok).1]
  exact ibs_len _
end
end Go.Proofs.YthnchjgffocigaaDoor.P
end
section
namespace Go.Proofs.YthnchjgffocigaaDoor.P
open Go.RowKit Go.Proofs.YthnchjgffocigaaDoorW.PrintWords Go.Proofs.YthnchjgffocigaaDoorW.PrintLast Go.Proofs.YthnchjgffocigaaDoorW.PrintMore
set_option linter.unusedVariables false
set_option linter.unusedSimpArgs false
def bestR (m : List (List Int)) (l : List S28) : List Int × Bool := if watched m l = true then (iz (bst (shW l) l.length 0 [] []), true) else ([], false)
theorem bestR_len (m : List (List Int)) (l : List S28) : (bestR m l).1.length ≤ 12 := by
  unfold bestR
  split
  · rename_i h
    show (iz _).length ≤ 12
    rw [iz_len]
    exact bst_len (watched_ok h)
  · simp
theorem best_s (m : List (List Int)) (hm : Fit m) (l : List S28) (hw : ∀ x ∈ l, wf4 x) (hlen : l.length ≤ 1048576) : Ev (fun k => spec_MostApart.f k m l) (bestR m l) := by
  obtain ⟨K, hK⟩ := l3Watched_ev m hm l hw hlen
  unfold bestR
  by_cases h : watched m l = true
  · obtain ⟨K2, h2⟩ := best_spec (watched_ok h)
    refine ⟨K + K2, fun k hk => ?_⟩
    have e1 := hK k (by omega)
    have e2 := h2 k (by omega)
    dsimp only at e1 e2 ⊢
    rw [spec_MostApart.f, e1, Option.bind_some, if_pos h, if_pos h, e2, Option.bind_some]
  · refine ⟨K, fun k hk => ?_⟩
    have e1 := hK k hk
    dsimp only at e1 ⊢
    rw [spec_MostApart.f, e1, Option.bind_some, if_neg h, if_neg h]
theorem best_i (m : List (List Int)) (hm : Fit m) (l : List S28) : Ev (fun k => impl_MostApart.f k m l) (bestR m l) := by
  obtain ⟨K, hK⟩ := areWatched_ev m hm l
  unfold bestR
  by_cases h : watched m l = true
  · obtain ⟨K2, h2⟩ := best_impl (watched_ok h)
    refine ⟨K + K2, fun k hk => ?_⟩
    have e1 := hK k (by omega)
    have e2 := h2 k (by omega)
    dsimp only at e1 e2 ⊢
    rw [impl_MostApart.f, e1, Option.bind_some, if_pos h, if_pos h]
    exact e2
  · refine ⟨K, fun k hk => ?_⟩
    have e1 := hK k hk
    dsimp only at e1 ⊢
    rw [impl_MostApart.f, e1, Option.bind_some, if_neg h, if_neg h]
theorem FnExactMostApart_ok : FnExactMostApartTrue := by
  intro A0 c0 m A1 c1 l  w hr hc hr1 hc1 hm hl HTD
  have hfit : Fit m := ⟨hm.1, fun a ha => (hm.2 a ha).1⟩
  have hw : ∀ x ∈ l.map cvW, wf4 x := fun x hx => by
    obtain ⟨y, hy, rfl⟩ := List.mem_map.mp hx
    exact wf64 (hl.2 y hy).2.1
  obtain ⟨r, ⟨K0, h0⟩, hz⟩ := szMem m hfit
  dsimp only at h0
  by_cases hr0 : r < 0
  · exact laws_FnExactMostApart.exit1 K0 A0 c0 m A1 c1 l  r w hr hc hr1 hc1 (h0 K0 (Nat.le_refl _)) hr0
  · obtain ⟨hsm, hr1'⟩ := hz hr0
    obtain ⟨r2, hq, hz2⟩ := szWins l r hl.1 hr0 hr1'
    by_cases hr2 : r2 < 0
    · exact laws_FnExactMostApart.exit2 K0 A0 c0 m A1 c1 l  r r2 w hr hc hr1 hc1 (h0 K0 (Nat.le_refl _)) hq hr0 hr2
    · obtain ⟨hlen, _⟩ := hz2 hr2
      have hlen' : (l.map cvW).length ≤ 1048576 := by rw [List.length_map]; exact hlen
      obtain ⟨K1, e1⟩ := toMem m hsm
      obtain ⟨K2, e2⟩ := eqMem m hfit
      obtain ⟨K3, e3⟩ := toWins l hlen
      obtain ⟨K4, e4⟩ := eqWins (l.map cvW) (by omega)
      obtain ⟨K5, e5⟩ := best_s m hfit (l.map cvW) hw hlen'
      obtain ⟨K6, e6⟩ := best_i m hfit (l.map cvW)
      have hg : (bestR m (l.map cvW)).1.length ≤ 1048576 := Nat.le_trans (bestR_len m (l.map cvW)) (by omega)
      obtain ⟨⟨g, ok⟩, hgo⟩ : ∃ x, x = bestR m (l.map cvW) := ⟨_, rfl⟩
      rw [← hgo] at e5 e6 hg
      dsimp only at hg
      obtain ⟨K7, e7⟩ := eqInts g (by omega)
      obtain ⟨K8, e8⟩ := markMem m 1 hsm (by omega) (by omega)
      have ht := total_small hsm
      obtain ⟨y, K9, e9⟩ := markWins (l.map cvW) (1 + total m) hlen' (by omega) (by omega)
      obtain ⟨K10, e10⟩ := markInts g 1 (by omega) (by omega) (by omega)
      obtain ⟨K11, e11⟩ := heldInts 1 g.length (by omega) (by omega) (by omega)
      obtain ⟨K, hK⟩ : ∃ K, K = K0 + K1 + K2 + K3 + K4 + K5 + K6 + K7 + K8 + K9 + K10 + K11 := ⟨_, rfl⟩
      exact laws_FnExactMostApart.walk K A0 c0 m A1 c1 l  r r2 m (l.map cvW) g ok g _ _ _ _ _ _ w hr hc hr1 hc1 (h0 K (by omega)) hq (e1 K (by omega)) (e3 K (by omega)) (e5 K (by omega)) (e6 K (by omega)) (e7 K (by omega)) (e2 K (by omega)) (e4 K (by omega)) (e8 K (by omega)) (e9 K (by omega)) (e10 K (by omega)) (e11 K (by omega)) hr0 hr2 (by omega) (by omega) (by omega) HTD
end Go.Proofs.YthnchjgffocigaaDoor.P
end
section
namespace Go.Proofs.YthnchjgffocigaaDoor.fnExactMostApart
open Go.ChangeShapes Go.WideShapes Go.ChangeAt Go.RowKit Go.Proofs.YthnchjgffocigaaDoor.P Go.Proofs.YthnchjgffocigaaDoorW.PrintWords Go.Proofs.YthnchjgffocigaaDoorW.PrintLast Go.Proofs.YthnchjgffocigaaDoorW.PrintMore
open Go.ChangeMaps (open_string shut_string)
set_option linter.unusedVariables false
set_option linter.unusedSimpArgs false
theorem own : ownKnob Tryd.prog.godebug = none := by kernel_rfl
theorem laidOut : laidOutB Tryd.prog = true := by kernel_rfl
theorem door_met (os : Os) (args : Array Value) : laidMetH Tryd.prog Rows.fnExactMostApartRow.laid ((World.doorLaid Tryd.prog 24 os).forCall (fun _ _ => 0) ⟨#[], args, []⟩).memory :=
  laidMetH_of_parts3 (fuel := 8) (laidMet_of_run' 8 (by kernel_rfl) (by kernel_rfl)) (by kernel_rfl) (by kernel_rfl)
set_option maxRecDepth 100000 in
theorem lifted (os : Os) (started : os.Started) (H : Type) (enc : TypeId × Value → H) :
    ReturnsInHanded {} Tryd.checked os 4 .any (fun w args => (Rows.fnExactMostApartSpec.pre enc Tryd.prog Tryd.f4 Rows.fnExactMostApartRow.domain false w args ∧ laidMetH Tryd.prog Rows.fnExactMostApartRow.laid w) ∧ sizedMet enc Tryd.prog Tryd.f4 (OpenSpec.ofChange Rows.fnExactMostApartSpec) false w args) (Rows.fnExactMostApartSpec.post enc Tryd.prog Tryd.f4 false true false false) := by
  refine returns_laid_shaped (C := Tryd.checked) (X := fun w _ => laidMetH Tryd.prog Rows.fnExactMostApartRow.laid w) (fun _ _ _ hh h => h.of_heap hh) own started (by kernel_rfl) Tryd.func4
    (ChangeSpec.witness_shaped (enc := enc) (C := Tryd.checked) (os := os) (X := fun w _ => laidMetH Tryd.prog Rows.fnExactMostApartRow.laid w) false (World.doorLaid Tryd.prog 24 os) #[.agg #[.slice none 0 0], .slice none 0 0] 8 rfl (World.shaped_of_RefB (by kernel_rfl) (by kernel_rfl)) (by kernel_rfl) (by kernel_rfl) (by kernel_rfl) (door_met os _)) ?_
  intro W base args ds gs before hval0 hW hcnd hsz0 hL hS _
  rw [MakeChecks.laidMetH_plain _ _ _ (by kernel_rfl)] at hL
  have HTD : Aside0 (TabD W) := ⟨tabD_of hL.tail⟩
  clear hL hS
  have hval : ∀ (j : Nat) t v, Tryd.f4.params[j]? = some t → args[j]? = some v → Value.okWide Tryd.prog W .any base t v := hval0
  have hW' := hW
  obtain ⟨p, q, hA0, hV, rfl, hfz, hnd⟩ := hW
  have hA : DataW.TrodAll enc Tryd.prog W 0 (fun _ => true) true Tryd.f4.params.toList args.toList ds p := hA0
  rw [Tryd.params4] at hA hval
  obtain ⟨v0, vs0, d0, ds0, p0, q0, hargs, rfl, rfl, h0, r0⟩ := trodAll_cons hA
  obtain ⟨v1, vs1, d1, ds1, p1, q1, rfl, rfl, rfl, h1, r1⟩ := trodAll_cons r0
  obtain ⟨rfl, rfl, rfl⟩ := trodAll_nil r1
  obtain rfl : args = #[v0, v1] := by cases args; simp_all
  obtain ⟨rfl, rfl⟩ := trodVars_none hV
  have k0_ := h0
  have lt0 : ∀ x ∈ p0, x.block < W.heap.size := by obtain ⟨m, hm⟩ := k0_; exact DataW.trod_lt m _ _ _ hm
  obtain ⟨v0_0, y0_0, nn0, rfl, h0_0⟩ := byval1 Tryd.underlying55 (by kernel_rfl) (by kernel_rfl) (hval 0 55 v0 rfl rfl) h0
  obtain ⟨l0_0, hk0_0, w0_0⟩ := opn_slice (d := (Kd.slice 5 (Kd.int .u8))) (Q := (fun l => l.length ≤ 9223372036854775807 ∧ ∀ x ∈ l, (fun x => (Lit.int .u8 x).wf = true) x)) Tryd.underlying24 (by kernel_rfl) (fun _ _ _ h => opn_slice (d := (Kd.int .u8)) (Q := (fun x => (Lit.int .u8 x).wf = true)) Tryd.underlying22 (by kernel_rfl) (fun _ _ _ h => opn_int Tryd.underlying5 h) h) h0_0
  obtain ⟨A0_0, c0_0, e0_0, hc0_0, hr0_0⟩ := hk0_0
  simp only [List.cons.injEq, and_true] at e0_0
  subst e0_0
  have k1_ := h1
  have lt1 : ∀ x ∈ p1, x.block < W.heap.size := by obtain ⟨m, hm⟩ := k1_; exact DataW.trod_lt m _ _ _ hm
  obtain ⟨nn1, h1_0⟩ := h1
  obtain ⟨A_, n_, c_, rfl⟩ := okWide_slice Tryd.underlying56 (hval 1 56 v1 rfl rfl)
  obtain ⟨l1, hk1, w1⟩ := opn_slice (d := k116) (Q := (fun x => (fun x => (Lit.int .i64 x).wf = true) x.f0 ∧ (fun x => (Lit.int .i64 x).wf = true) x.f1 ∧ (fun x => (Lit.int .i64 x).wf = true) x.f2 ∧ (fun x => (Lit.int .i64 x).wf = true) x.f3)) Tryd.underlying56 (by kernel_rfl) (fun _ _ _ h => opn_S116 h) h1_0
  obtain ⟨A1, c1, e1, hc1, hr1⟩ := hk1
  simp only [Value.cells, List.cons.injEq, and_true, Array.toList] at e1
  simp only [Value.slice.injEq] at e1
  obtain ⟨rfl, rfl, rfl⟩ := e1
  clear hA0 hval0 hsz0
  refine (FnExactMostApart_ok _ _ l0_0 _ _ l1 W hr0_0 hc0_0 hr1 hc1 w0_0 w1 HTD).mono fun e W' ⟨he, bel0⟩ => ?_
  have bel : Below W.heap.size W W' := by first | exact bel0 | exact bel0.below
  subst he
  exact ⟨_, rfl, _, _, _, [], _, [], hW', trodAll_mk1 (shut_bool Tryd.underlying4 _), (trodAll_cons_mk (Below.trod laidOut (by kernel_rfl) (of_decide_eq_true (by kernel_rfl)) k0_ bel lt0) (trodAll_cons_mk (Below.trod laidOut (by kernel_rfl) (of_decide_eq_true (by kernel_rfl)) k1_ bel lt1) trodAll_mk0)), rfl, bel.frame _, fun h => by cases h⟩
theorem over : Rows.fnExactMostApartRow.holds Tryd.pinned (OpenSpec.ofChange Rows.fnExactMostApartSpec) :=
  OpenClaim.holds_of_wide 4 Tryd.f4 rfl rfl rfl rfl rfl rfl rfl ⟨rfl, rfl, rfl, rfl, rfl⟩ rfl rfl rfl rfl rfl (by kernel_rfl) Tryd.func4 (by kernel_rfl)
    (of_decide_eq_true (by kernel_rfl)) (by unfold Func.isWrapper; first | (rw [if_pos (by decide +kernel)]; kernel_rfl) | (rw [if_neg (by decide +kernel)]; exact ⟨rfl, rfl⟩))
    (fun os started H enc _ => lifted os started H enc)
theorem proved : Rows.FnExactMostApartSaid := over
#print axioms proved
end Go.Proofs.YthnchjgffocigaaDoor.fnExactMostApart
namespace Go.Proofs.YthnchjgffocigaaDoor
theorem fnExactMostApart_holds : Rows.FnExactMostApartCardSaid :=
  Claim7.holds_tied_plain_at .later [] [.data, .data] true (true, "0286eec5d63251e4d9c124edb7c430d0f58ca461609789ebc4f4d0c7a50c3b0b") false
    fnExactMostApart.proved (fun _ h => by cases h) (by kernel_rfl) (fun _ h => by cases h) fnExactMostApart_row_tie rfl ⟨rfl, rfl⟩ (by kernel_rfl) rfl
    (fun f fn hf hfn => by
      obtain rfl : f = 4 := Option.some.inj ((show Tryd.prog.funcNamed "loop.example/g01179/laws.FnExactMostApart" = some 4 by kernel_rfl).symm.trans hf) |>.symm
      obtain rfl : fn = Tryd.f4 := (Option.some.inj (Tryd.func4.symm.trans hfn)).symm
      exact ⟨by kernel_rfl, fun j t ht => by
        rw [Tryd.params4] at ht
        have hm : t ∈ [55, 56] := by simpa using Array.mem_of_getElem? ht
        have hall : ([55, 56].all fun u => !Tryd.prog.wantsStandIn u) = true := by kernel_rfl
        exact (show Tryd.prog.wantsStandIn t = false by simpa using List.all_eq_true.1 hall t hm)⟩)
    (by kernel_rfl)
#print axioms fnExactMostApart_holds
end Go.Proofs.YthnchjgffocigaaDoor
end
