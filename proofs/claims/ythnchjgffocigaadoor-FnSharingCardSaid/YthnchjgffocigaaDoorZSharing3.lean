/- Words for rows in memory, contracts of functions, plain lemmas. -/
import Derived.Test.YthnchjgffocigaaDoorZSharing2
import Derived.StillTailTactics
import Derived.Shelf.Abstract
import Derived.Lib.Hide
section
namespace Go.Proofs.YthnchjgffocigaaDoor.P
open Go.RowKit Go.Proofs.YthnchjgffocigaaDoorW.PrintWords Go.Proofs.YthnchjgffocigaaDoorW.PrintLast Go.Proofs.YthnchjgffocigaaDoorW.PrintMore
set_option linter.unusedVariables false
set_option linter.unusedSimpArgs false
def impl_AreNear.f (k : Nat) (l0_0 : List (List Int)) (a1_0 : Int) (a1_1 : Int) (a1_2 : Int) (a1_3 : Int) (a2_0 : Int) (a2_1 : Int) (a2_2 : Int) (a2_3 : Int) : Option (Bool × Bool) := (impl_areOn.f k l0_0 (([(⟨a1_0, a1_1, a1_2, a1_3⟩ : S28), (⟨a2_0, a2_1, a2_2, a2_3⟩ : S28)] : List (S28)))).bind fun t539 => (if t539 = true then ((impl_Window_wide.f a1_0 a1_1 a1_2 a1_3).bind fun bt540 => ((impl_Window_wide.f a2_0 a2_1 a2_2 a2_3).bind fun bt544 => ((impl_areShared.f bt540.1 bt540.2.1 bt540.2.2.1 bt540.2.2.2 bt544.1 bt544.2.1 bt544.2.2.1 bt544.2.2.2).bind fun t548 => (some (t548, true))))) else (some (false, false)))
set_option maxHeartbeats 8000000 in
set_option maxRecDepth 100000 in
theorem impl_AreNear.calls (k : Nat) (A0_0 : Option Addr) (c0_0 : Nat) (l0_0 : List (List Int)) (a1_0 : Int) (a1_1 : Int) (a1_2 : Int) (a1_3 : Int) (a2_0 : Int) (a2_1 : Int) (a2_2 : Int) (a2_3 : Int) (r1 : Bool) (r2 : Bool) (w : World) (hr0_0 : Kd.C (Kd.slice 5 (Kd.int .u8)) w A0_0 l0_0.length l0_0) (hc0_0 : l0_0.length ≤ c0_0) (h : impl_AreNear.f k l0_0 a1_0 a1_1 a1_2 a1_3 a2_0 a2_1 a2_2 a2_3 = some (r1, r2)) :
    Calls Tryd.prog 12 #[.agg #[.slice A0_0 l0_0.length c0_0], .agg #[.int .i64 a1_0, .int .i64 a1_1, .int .i64 a1_2, .int .i64 a1_3], .agg #[.int .i64 a2_0, .int .i64 a2_1, .int .i64 a2_2, .int .i64 a2_3]] w fun e w' => e = .returned (.tuple #[.bool r1, .bool r2]) ∧ Below w.heap.size w w' := by
 have hu26 := Tryd.underlying26
 have hu28 := Tryd.underlying28
 have HR0_0 := am hr0_0
 have HC0_0 := am hc0_0
 clear hr0_0 hc0_0
 have HB := am (Below.refl w.heap.size w)
 have H : ((impl_areOn.f k l0_0 (([(⟨a1_0, a1_1, a1_2, a1_3⟩ : S28), (⟨a2_0, a2_1, a2_2, a2_3⟩ : S28)] : List (S28)))).bind fun t539 => (if t539 = true then ((impl_Window_wide.f a1_0 a1_1 a1_2 a1_3).bind fun bt540 => ((impl_Window_wide.f a2_0 a2_1 a2_2 a2_3).bind fun bt544 => ((impl_areShared.f bt540.1 bt540.2.1 bt540.2.2.1 bt540.2.2.2 bt544.1 bt544.2.1 bt544.2.2.1 bt544.2.2.2).bind fun t548 => (some (t548, true))))) else (some (false, false)))) = some (r1, r2) := h
 clear h
 obtain ⟨y536, hy536⟩ : ∃ y_ : List (S28), y_ = (([(⟨a1_0, a1_1, a1_2, a1_3⟩ : S28), (⟨a2_0, a2_1, a2_2, a2_3⟩ : S28)] : List (S28))) := ⟨_, rfl⟩
 replace H : ((impl_areOn.f k l0_0 y536).bind fun t539 => (if t539 = true then ((impl_Window_wide.f a1_0 a1_1 a1_2 a1_3).bind fun bt540 => ((impl_Window_wide.f a2_0 a2_1 a2_2 a2_3).bind fun bt544 => ((impl_areShared.f bt540.1 bt540.2.1 bt540.2.2.1 bt540.2.2.2 bt544.1 bt544.2.1 bt544.2.2.1 bt544.2.2.2).bind fun t548 => (some (t548, true))))) else (some (false, false)))) = some (r1, r2) := by first | (rw [hy536]; with_reducible exact H) | (have H2_ := (Option.bind_some _ _).symm.trans H; rw [hy536]; with_reducible exact H2_) | (have H2_ := (Option.bind_some _ _).symm.trans H; with_reducible exact H2_) | with_reducible exact H | (rw [hy536]; exact H) | exact H
 have Ny536 := am hy536
 clear hy536
 replace H := Option.bind_eq_some_iff.mp H
 obtain ⟨t539, A40, H⟩ := H
 try dsimp only at H
 have A4 := am A40
 clear A40
 by_cases c5 : t539 = true
 ·subst c5
  have H1 : ((impl_Window_wide.f a1_0 a1_1 a1_2 a1_3).bind fun bt540 => ((impl_Window_wide.f a2_0 a2_1 a2_2 a2_3).bind fun bt544 => ((impl_areShared.f bt540.1 bt540.2.1 bt540.2.2.1 bt540.2.2.2 bt544.1 bt544.2.1 bt544.2.2.1 bt544.2.2.2).bind fun t548 => (some (t548, true))))) = some (r1, r2) := by rw [if_pos rfl] at H; exact H
  clear H
  have H := H1
  clear H1
  replace H := Option.bind_eq_some_iff.mp H
  obtain ⟨⟨t540, t541, t542, t543⟩, A60, H⟩ := H
  try dsimp only at H
  have A6 := am A60
  clear A60
  replace H := Option.bind_eq_some_iff.mp H
  obtain ⟨⟨t544, t545, t546, t547⟩, A70, H⟩ := H
  try dsimp only at H
  have A7 := am A70
  clear A70
  replace H := Option.bind_eq_some_iff.mp H
  obtain ⟨t548, A80, H⟩ := H
  try dsimp only at H
  have A8 := am A80
  clear A80
  simp only [Option.some.injEq, Prod.mk.injEq] at H
  obtain ⟨rfl, rfl⟩ := H
  go_enter Tryd.func12, Tryd.ntmps12
  try go_wp2_with (first | ((with_reducible refine gate_dst (N := 3) rfl ?_); refine bE 3 #[.slice A0_0 l0_0.length c0_0] 26 ?_; intro gb533 hg w9 hbox hb; have BK533 := am hbox; have GW533 := gB hg HB; have GE533 := gB hg HB; replace HB := hB hb HB; clear hb hbox hg) | ((with_reducible refine gate_dst (N := 4) rfl ?_); refine bE 4 #[.int .i64 a1_0, .int .i64 a1_1, .int .i64 a1_2, .int .i64 a1_3] 28 ?_; intro gb534 hg w10 hbox hb; have BK534 := am hbox; have GW534 := gB hg HB; have GE534 := gB hg HB; replace HB := hB hb HB; have NB533_534 := nL hg BK533; have NB534_533 := nG hg BK533; replace BK533 := bB hb BK533; clear hb hbox hg) | ((with_reducible refine gate_dst (N := 5) rfl ?_); refine bE 5 #[.int .i64 a2_0, .int .i64 a2_1, .int .i64 a2_2, .int .i64 a2_3] 28 ?_; intro gb535 hg w11 hbox hb; have BK535 := am hbox; have GW535 := gB hg HB; have GE535 := gB hg HB; replace HB := hB hb HB; have NB533_535 := nL hg BK533; have NB535_533 := nG hg BK533; replace BK533 := bB hb BK533; have NB534_535 := nL hg BK534; have NB535_534 := nG hg BK534; replace BK534 := bB hb BK534; clear hb hbox hg; have hnb12 := NB533_534.out; have hnc12 := NB534_533.out; have hnb13 := NB533_535.out; have hnc13 := NB535_533.out; obtain ⟨_, _⟩ := z1 BK533; have hnb15 := NB534_535.out; have hnc15 := NB535_534.out; obtain ⟨_, _, _, _, _, _, _, _⟩ := z4 BK534; obtain ⟨_, _, _, _, _, _, _, _⟩ := z4 BK535) | ((with_reducible refine gate_dst (N := 11) rfl ?_); refine Kd.R_lit k28 _ 28 ?hg (N := 11) ?hd (xs := ([(⟨a1_0, a1_1, a1_2, a1_3⟩ : S28), (⟨a2_0, a2_1, a2_2, a2_3⟩ : S28)] : List (S28))) (inner := [.int .i64 a1_0, .int .i64 a1_1, .int .i64 a1_2, .int .i64 a1_3, .int .i64 a2_0, .int .i64 a2_1, .int .i64 a2_2, .int .i64 a2_3]) (ok := fun _ => True) (okp := fun _ => True) ?hr ?hp (fun _ hk => hk) trivial (Below.refl _ _) (Nat.le_refl _) (by simp) ?_; (case hd => rfl); (case hg => rfl); (case hr => first | (go_simp; done) | (go_simp; rfl)); (case hp => exact (Reps.c4 (show Kd.M k28 _ _ _ (⟨a1_0, a1_1, a1_2, a1_3⟩ : S28) [.int .i64 a1_0, .int .i64 a1_1, .int .i64 a1_2, .int .i64 a1_3] from (k28_mkM _ _ _ (⟨a1_0, a1_1, a1_2, a1_3⟩ : S28) )) (Reps.c4 (show Kd.M k28 _ _ _ (⟨a2_0, a2_1, a2_2, a2_3⟩ : S28) [.int .i64 a2_0, .int .i64 a2_1, .int .i64 a2_2, .int .i64 a2_3] from (k28_mkM _ _ _ (⟨a2_0, a2_1, a2_2, a2_3⟩ : S28) )) (Reps.none _ _)))); intro v537 w18 ho19 hb hg_ hnew_; clear hg_ hnew_; (first | rw [← Ny536.out] at ho19 | (simp only [Int.reduceToNat] at ho19; rw [← Ny536.out] at ho19)); have HO538 := am (Kd.R_lower (Kd.R_newB (Kd.R_newB ho19 (g := gb534) (o := .cells #[.int .i64 a1_0, .int .i64 a1_1, .int .i64 a1_2, .int .i64 a1_3] 28 (0, 0)) (kk BK534)) (g := gb535) (o := .cells #[.int .i64 a2_0, .int .i64 a2_1, .int .i64 a2_2, .int .i64 a2_3] 28 (0, 0)) (kk BK535)) (below_size (bs HB))); replace BK533 := bB hb BK533; replace BK534 := bB hb BK534; replace BK535 := bB hb BK535; replace HB := hB hb HB; clear hb ho19; obtain ⟨Ao20, co20, eo20⟩ := Kd.R_slice HO538.out; subst eo20) | ((with_reducible refine gate_callee (f := 63) rfl ?_); refine gL 12 Tryd.func63 #[.agg #[.slice A0_0 l0_0.length c0_0], .slice Ao20 y536.length co20] ?_; (with_reducible refine (impl_areOn.calls k _ _ l0_0 _ _ y536 true _ ?side1 ?side2 ?side3 ?side4 A4.out).mono ?_); (case side1 => exact cc (Kd.C_below HR0_0.out HB.out)); (case side2 => exact HC0_0.out); (case side3 => exact cc (Kd.R_reads' HO538.out).2.2); (case side4 => exact (Kd.R_reads' HO538.out).2.1); rintro e w21 ⟨rfl, hb⟩; refine ⟨_, rfl, ?_⟩; replace HO538 := rB hb HO538; replace BK533 := bB hb BK533; replace BK534 := bB hb BK534; replace BK535 := bB hb BK535; replace HB := hB hb HB; (try clear hb); (try clear hk); (try clear hi)))
  replace HO538 := am (Kd.R_drew HO538.out)
  replace BK533 := am (blk_drew BK533.out)
  replace BK534 := am (blk_drew BK534.out)
  replace BK535 := am (blk_drew BK535.out)
  replace HB := am (below_drew1 HB.out)
  refine start_ (n := 7) (S := fun w' => w'.cell? ⟨gb534, 0, none⟩ = some (.int .i64 a1_0) ∧ w'.cell? ⟨gb534, 1, none⟩ = some (.int .i64 a1_1) ∧ w'.cell? ⟨gb534, 2, none⟩ = some (.int .i64 a1_2) ∧ w'.cell? ⟨gb534, 3, none⟩ = some (.int .i64 a1_3) ∧ w'.cell? ⟨gb535, 0, none⟩ = some (.int .i64 a2_0) ∧ w'.cell? ⟨gb535, 1, none⟩ = some (.int .i64 a2_1) ∧ w'.cell? ⟨gb535, 2, none⟩ = some (.int .i64 a2_2) ∧ w'.cell? ⟨gb535, 3, none⟩ = some (.int .i64 a2_3)) (ds := []) #[ff, ff, ff, ff, ff, ff, ff] (by kernel_rfl) rfl rfl ⟨(blk_cell BK534.out 0).trans rfl, (blk_cell BK534.out 1).trans rfl, (blk_cell BK534.out 2).trans rfl, (blk_cell BK534.out 3).trans rfl, (blk_cell BK535.out 0).trans rfl, (blk_cell BK535.out 1).trans rfl, (blk_cell BK535.out 2).trans rfl, (blk_cell BK535.out 3).trans rfl⟩ (fun hHeld => ?_)
  generalize w21.drew = w22 at HO538 BK533 BK534 BK535 HB hHeld ⊢
  refine tM #[tt, ff, ff, ff, ff, ff, ff] 0 14 hHeld ?_
  refine tM #[tt, ff, tt, ff, ff, ff, ff] 2 16 hHeld ?_
  refine one_ (i := 1) (N := some 15) #[tt, tt, tt, ff, ff, ff, ff] rfl rfl (by kernel_rfl) (by decide) (fun K hK => ?_)
  refine goes_ Tryd.func69 (by kernel_rfl) rfl #[.agg #[.int .i64 a1_0, .int .i64 a1_1, .int .i64 a1_2, .int .i64 a1_3]] (by rfl) rfl rfl (by (try simp only [List.map_toArray, List.map_cons, List.map_nil]); first | done | rfl | (simp only [List.length_drop, List.length_take]; rfl)) ?_
  with_reducible refine (impl_Window_wide.calls a1_0 a1_1 a1_2 a1_3 t540 t541 t542 t543 _ A6.out).mono ?_
  rintro e w23 ⟨rfl, hb⟩
  refine ⟨_, rfl, ?_⟩
  replace HO538 := rB hb HO538
  replace BK533 := bB hb BK533
  replace BK534 := bB hb BK534
  replace BK535 := bB hb BK535
  replace HB := hB hb HB
  (try clear hb)
  (try clear hb2)
  (try clear hk)
  (try clear hi)
  refine hK.out _ _ ⟨(blk_cell BK534.out 0).trans rfl, (blk_cell BK534.out 1).trans rfl, (blk_cell BK534.out 2).trans rfl, (blk_cell BK534.out 3).trans rfl, (blk_cell BK535.out 0).trans rfl, (blk_cell BK535.out 1).trans rfl, (blk_cell BK535.out 2).trans rfl, (blk_cell BK535.out 3).trans rfl⟩ (fun hHeld => ?_)
  clear hK K
  refine nP 15 ?_
  refine one_ (i := 3) (N := some 17) #[tt, tt, tt, tt, ff, ff, ff] rfl rfl (by kernel_rfl) (by decide) (fun K hK => ?_)
  refine goes_ Tryd.func69 (by kernel_rfl) rfl #[.agg #[.int .i64 a2_0, .int .i64 a2_1, .int .i64 a2_2, .int .i64 a2_3]] (by rfl) rfl rfl (by (try simp only [List.map_toArray, List.map_cons, List.map_nil]); first | done | rfl | (simp only [List.length_drop, List.length_take]; rfl)) ?_
  with_reducible refine (impl_Window_wide.calls a2_0 a2_1 a2_2 a2_3 t544 t545 t546 t547 _ A7.out).mono ?_
  rintro e w24 ⟨rfl, hb⟩
  refine ⟨_, rfl, ?_⟩
  replace HO538 := rB hb HO538
  replace BK533 := bB hb BK533
  replace BK534 := bB hb BK534
  replace BK535 := bB hb BK535
  replace HB := hB hb HB
  (try clear hb)
  (try clear hb2)
  (try clear hk)
  (try clear hi)
  refine hK.out _ _ ⟨(blk_cell BK534.out 0).trans rfl, (blk_cell BK534.out 1).trans rfl, (blk_cell BK534.out 2).trans rfl, (blk_cell BK534.out 3).trans rfl, (blk_cell BK535.out 0).trans rfl, (blk_cell BK535.out 1).trans rfl, (blk_cell BK535.out 2).trans rfl, (blk_cell BK535.out 3).trans rfl⟩ (fun hHeld => ?_)
  clear hK K
  refine nP 17 ?_
  refine one_ (i := 4) (N := some 18) #[tt, tt, tt, tt, tt, ff, ff] rfl rfl (by kernel_rfl) (by decide) (fun K hK => ?_)
  refine goes_ Tryd.func68 (by kernel_rfl) rfl #[.agg #[.int .i64 t540, .int .i64 t541, .int .i64 t542, .int .i64 t543], .agg #[.int .i64 t544, .int .i64 t545, .int .i64 t546, .int .i64 t547]] (by rfl) rfl rfl (by (try simp only [List.map_toArray, List.map_cons, List.map_nil]); first | done | rfl | (simp only [List.length_drop, List.length_take]; rfl)) ?_
  with_reducible refine (impl_areShared.calls t540 t541 t542 t543 t544 t545 t546 t547 t548 _ A8.out).mono ?_
  rintro e w25 ⟨rfl, hb⟩
  refine ⟨_, rfl, ?_⟩
  replace HO538 := rB hb HO538
  replace BK533 := bB hb BK533
  replace BK534 := bB hb BK534
  replace BK535 := bB hb BK535
  replace HB := hB hb HB
  (try clear hb)
  (try clear hb2)
  (try clear hk)
  (try clear hi)
  refine hK.out _ _ ⟨(blk_cell BK534.out 0).trans rfl, (blk_cell BK534.out 1).trans rfl, (blk_cell BK534.out 2).trans rfl, (blk_cell BK534.out 3).trans rfl, (blk_cell BK535.out 0).trans rfl, (blk_cell BK535.out 1).trans rfl, (blk_cell BK535.out 2).trans rfl, (blk_cell BK535.out 3).trans rfl⟩ (fun hHeld => ?_)
  clear hK K
  refine nP 18 ?_
  refine pM #[tt, tt, tt, tt, tt, tt, ff] 5 6 ?_
  refine pM #[tt, tt, tt, tt, tt, tt, tt] 6 7 ?_
  refine done_ (by kernel_rfl) ?_
  try go_wp2
  go_ret2
  exact ⟨by first | rfl | (simp [*, errW_none, errW_some] <;> rfl), bs HB⟩
 ·replace c5 := Bool.eq_false_iff.mpr c5
  subst c5
  have H1 : (some (false, false)) = some (r1, r2) := by rw [if_neg (show ¬ (false = true) by decide)] at H; exact H
  clear H
  have H := H1
  clear H1
  simp only [Option.some.injEq, Prod.mk.injEq] at H
  obtain ⟨rfl, rfl⟩ := H
  go_enter Tryd.func12, Tryd.ntmps12
  go_wp2_with (first | ((with_reducible refine gate_dst (N := 3) rfl ?_); refine bE 3 #[.slice A0_0 l0_0.length c0_0] 26 ?_; intro gb533 hg w26 hbox hb; have BK533 := am hbox; have GW533 := gB hg HB; have GE533 := gB hg HB; replace HB := hB hb HB; clear hb hbox hg) | ((with_reducible refine gate_dst (N := 4) rfl ?_); refine bE 4 #[.int .i64 a1_0, .int .i64 a1_1, .int .i64 a1_2, .int .i64 a1_3] 28 ?_; intro gb534 hg w27 hbox hb; have BK534 := am hbox; have GW534 := gB hg HB; have GE534 := gB hg HB; replace HB := hB hb HB; have NB533_534 := nL hg BK533; have NB534_533 := nG hg BK533; replace BK533 := bB hb BK533; clear hb hbox hg) | ((with_reducible refine gate_dst (N := 5) rfl ?_); refine bE 5 #[.int .i64 a2_0, .int .i64 a2_1, .int .i64 a2_2, .int .i64 a2_3] 28 ?_; intro gb535 hg w28 hbox hb; have BK535 := am hbox; have GW535 := gB hg HB; have GE535 := gB hg HB; replace HB := hB hb HB; have NB533_535 := nL hg BK533; have NB535_533 := nG hg BK533; replace BK533 := bB hb BK533; have NB534_535 := nL hg BK534; have NB535_534 := nG hg BK534; replace BK534 := bB hb BK534; clear hb hbox hg; have hnb29 := NB533_534.out; have hnc29 := NB534_533.out; have hnb30 := NB533_535.out; have hnc30 := NB535_533.out; obtain ⟨_, _⟩ := z1 BK533; have hnb32 := NB534_535.out; have hnc32 := NB535_534.out; obtain ⟨_, _, _, _, _, _, _, _⟩ := z4 BK534; obtain ⟨_, _, _, _, _, _, _, _⟩ := z4 BK535) | ((with_reducible refine gate_dst (N := 11) rfl ?_); refine Kd.R_lit k28 _ 28 ?hg (N := 11) ?hd (xs := ([(⟨a1_0, a1_1, a1_2, a1_3⟩ : S28), (⟨a2_0, a2_1, a2_2, a2_3⟩ : S28)] : List (S28))) (inner := [.int .i64 a1_0, .int .i64 a1_1, .int .i64 a1_2, .int .i64 a1_3, .int .i64 a2_0, .int .i64 a2_1, .int .i64 a2_2, .int .i64 a2_3]) (ok := fun _ => True) (okp := fun _ => True) ?hr ?hp (fun _ hk => hk) trivial (Below.refl _ _) (Nat.le_refl _) (by simp) ?_; (case hd => rfl); (case hg => rfl); (case hr => first | (go_simp; done) | (go_simp; rfl)); (case hp => exact (Reps.c4 (show Kd.M k28 _ _ _ (⟨a1_0, a1_1, a1_2, a1_3⟩ : S28) [.int .i64 a1_0, .int .i64 a1_1, .int .i64 a1_2, .int .i64 a1_3] from (k28_mkM _ _ _ (⟨a1_0, a1_1, a1_2, a1_3⟩ : S28) )) (Reps.c4 (show Kd.M k28 _ _ _ (⟨a2_0, a2_1, a2_2, a2_3⟩ : S28) [.int .i64 a2_0, .int .i64 a2_1, .int .i64 a2_2, .int .i64 a2_3] from (k28_mkM _ _ _ (⟨a2_0, a2_1, a2_2, a2_3⟩ : S28) )) (Reps.none _ _)))); intro v537 w35 ho36 hb hg_ hnew_; clear hg_ hnew_; (first | rw [← Ny536.out] at ho36 | (simp only [Int.reduceToNat] at ho36; rw [← Ny536.out] at ho36)); have HO538 := am (Kd.R_lower (Kd.R_newB (Kd.R_newB ho36 (g := gb534) (o := .cells #[.int .i64 a1_0, .int .i64 a1_1, .int .i64 a1_2, .int .i64 a1_3] 28 (0, 0)) (kk BK534)) (g := gb535) (o := .cells #[.int .i64 a2_0, .int .i64 a2_1, .int .i64 a2_2, .int .i64 a2_3] 28 (0, 0)) (kk BK535)) (below_size (bs HB))); replace BK533 := bB hb BK533; replace BK534 := bB hb BK534; replace BK535 := bB hb BK535; replace HB := hB hb HB; clear hb ho36; obtain ⟨Ao37, co37, eo37⟩ := Kd.R_slice HO538.out; subst eo37) | ((with_reducible refine gate_callee (f := 63) rfl ?_); refine gL 12 Tryd.func63 #[.agg #[.slice A0_0 l0_0.length c0_0], .slice Ao37 y536.length co37] ?_; (with_reducible refine (impl_areOn.calls k _ _ l0_0 _ _ y536 false _ ?side1 ?side2 ?side3 ?side4 A4.out).mono ?_); (case side1 => exact cc (Kd.C_below HR0_0.out HB.out)); (case side2 => exact HC0_0.out); (case side3 => exact cc (Kd.R_reads' HO538.out).2.2); (case side4 => exact (Kd.R_reads' HO538.out).2.1); rintro e w38 ⟨rfl, hb⟩; refine ⟨_, rfl, ?_⟩; replace HO538 := rB hb HO538; replace BK533 := bB hb BK533; replace BK534 := bB hb BK534; replace BK535 := bB hb BK535; replace HB := hB hb HB; (try clear hb); (try clear hk); (try clear hi)))
  go_ret2
  exact ⟨by first | rfl | (simp [*, errW_none, errW_some] <;> rfl), bs HB⟩
def spec_l3Full.f (a0_0 : Int) (a0_1 : Int) (a0_2 : Int) (a0_3 : Int) : Option (Int × Int × Int × Int) := (spec_l2Slice.f a0_0 a0_1 a0_2 a0_3 0 a0_3 a0_3).bind fun bt551 => (some (bt551.1, bt551.2.1, bt551.2.2.1, bt551.2.2.2))
set_option maxHeartbeats 8000000 in
set_option maxRecDepth 100000 in
theorem spec_l3Full.calls (a0_0 : Int) (a0_1 : Int) (a0_2 : Int) (a0_3 : Int) (r1 : Int) (r2 : Int) (r3 : Int) (r4 : Int) (w : World) (h : spec_l3Full.f a0_0 a0_1 a0_2 a0_3 = some (r1, r2, r3, r4)) :
    Calls Tryd.prog 70 #[.agg #[.int .i64 a0_0, .int .i64 a0_1, .int .i64 a0_2, .int .i64 a0_3]] w fun e w' => e = .returned (.agg #[.int .i64 r1, .int .i64 r2, .int .i64 r3, .int .i64 r4]) ∧ Below w.heap.size w w' := by
 have hu28 := Tryd.underlying28
 have HB := am (Below.refl w.heap.size w)
 have H : ((spec_l2Slice.f a0_0 a0_1 a0_2 a0_3 0 a0_3 a0_3).bind fun bt551 => (some (bt551.1, bt551.2.1, bt551.2.2.1, bt551.2.2.2))) = some (r1, r2, r3, r4) := h
 clear h
 replace H := Option.bind_eq_some_iff.mp H
 obtain ⟨⟨t551, t552, t553, t554⟩, A20, H⟩ := H
 try dsimp only at H
 have A2 := am A20
 clear A20
 simp only [Option.some.injEq, Prod.mk.injEq] at H
 obtain ⟨rfl, rfl, rfl, rfl⟩ := H
 go_enter Tryd.func70, Tryd.ntmps70
 go_wp2_with (first | ((with_reducible refine gate_dst (N := 1) rfl ?_); refine bE 1 #[.int .i64 a0_0, .int .i64 a0_1, .int .i64 a0_2, .int .i64 a0_3] 28 ?_; intro gb549 hg w3 hbox hb; have BK549 := am hbox; have GW549 := gB hg HB; have GE549 := gB hg HB; replace HB := hB hb HB; clear hb hbox hg) | ((with_reducible refine gate_dst (N := 2) rfl ?_); refine bE 2 #[.int .i64 0, .int .i64 0, .int .i64 0, .int .i64 0] 28 ?_; intro gb550 hg w4 hbox hb; have BK550 := am hbox; have GW550 := gB hg HB; have GE550 := gB hg HB; replace HB := hB hb HB; have NB549_550 := nL hg BK549; have NB550_549 := nG hg BK549; replace BK549 := bB hb BK549; clear hb hbox hg; have hnb5 := NB549_550.out; have hnc5 := NB550_549.out; obtain ⟨_, _, _, _, _, _, _, _⟩ := z4 BK549) | ((with_reducible refine gate_callee (f := 97) rfl ?_); refine gL 8 Tryd.func97 #[.agg #[.int .i64 a0_0, .int .i64 a0_1, .int .i64 a0_2, .int .i64 a0_3], .int .i64 0, .int .i64 a0_3, .int .i64 a0_3] ?_; (with_reducible refine (spec_l2Slice.calls a0_0 a0_1 a0_2 a0_3 0 a0_3 a0_3 t551 t552 t553 t554 _ A2.out).mono ?_); rintro e w7 ⟨rfl, hb⟩; refine ⟨_, rfl, ?_⟩; replace BK549 := bB hb BK549; replace BK550 := bB hb BK550; replace HB := hB hb HB; (try clear hb); (try clear hk); (try clear hi); obtain ⟨_, _, _, _, _, _, _, _⟩ := z4 BK550))
 refine bodyPost_ret (results_cell_row rfl _ _ gb550 28 #[.int .i64 t551, .int .i64 t552, .int .i64 t553, .int .i64 t554] (0, 0) _ rfl (by (with_reducible repeat (first | apply blk_drewN | apply blk_drew | apply blk_alloc)); refine blk_put (cs := #[.int .i64 t551, .int .i64 t552, .int .i64 t553, .int .i64 0]) ?_ 3 _ rfl; (with_reducible repeat (first | apply blk_drewN | apply blk_drew | apply blk_alloc)); refine blk_put (cs := #[.int .i64 t551, .int .i64 t552, .int .i64 0, .int .i64 0]) ?_ 2 _ rfl; (with_reducible repeat (first | apply blk_drewN | apply blk_drew | apply blk_alloc)); refine blk_put (cs := #[.int .i64 t551, .int .i64 0, .int .i64 0, .int .i64 0]) ?_ 1 _ rfl; (with_reducible repeat (first | apply blk_drewN | apply blk_drew | apply blk_alloc)); refine blk_put (cs := #[.int .i64 0, .int .i64 0, .int .i64 0, .int .i64 0]) ?_ 0 _ rfl; (with_reducible repeat (first | apply blk_drewN | apply blk_drew | apply blk_alloc)); exact BK550.out) Tryd.underlying28 rfl (by kernel_rfl)) rfl ?_
 exact ⟨by first | rfl | (simp [*, errW_none, errW_some] <;> rfl), bs HB⟩
def spec_AreNear.f (k : Nat) (l0_0 : List (List Int)) (a1_0 : Int) (a1_1 : Int) (a1_2 : Int) (a1_3 : Int) (a2_0 : Int) (a2_1 : Int) (a2_2 : Int) (a2_3 : Int) : Option (Bool × Bool) := (spec_l2Both.f k l0_0 a1_0 a1_1 a1_2 a1_3 a2_0 a2_1 a2_2 a2_3).bind fun t558 => (if t558 = true then ((spec_l3Full.f a1_0 a1_1 a1_2 a1_3).bind fun bt559 => ((spec_l3Full.f a2_0 a2_1 a2_2 a2_3).bind fun bt563 => ((spec_l2Overlap.f bt559.1 bt559.2.1 bt559.2.2.1 bt559.2.2.2 bt563.1 bt563.2.1 bt563.2.2.1 bt563.2.2.2).bind fun t567 => (some (decide (t567 > 0), true))))) else (some (false, false)))
def spec_AreNear.T3 : Bool × List (List Nat × List Nat) := (true, [([], []), ([0], [0]), ([], []), ([2, 1], [2]), ([1, 3, 3], [1, 3]), ([4], [4]), ([5, 4, 0, 1, 2, 3, 4, 5], [5]), ([6, 0, 1, 2, 3, 4, 5, 6], [])])
def spec_AreNear.B3 : List Nat := [0, 1, 0, 7, 15, 31, 63, 127]
theorem spec_AreNear.tab3 : rtab .any (opsOf Tryd.f13 3) = spec_AreNear.T3 := by kernel_rfl
theorem spec_AreNear.bits3 : waitsOk spec_AreNear.T3.2 spec_AreNear.B3 = true := by kernel_rfl
set_option maxHeartbeats 8000000 in
set_option maxRecDepth 100000 in
theorem spec_AreNear.calls (k : Nat) (A0_0 : Option Addr) (c0_0 : Nat) (l0_0 : List (List Int)) (a1_0 : Int) (a1_1 : Int) (a1_2 : Int) (a1_3 : Int) (a2_0 : Int) (a2_1 : Int) (a2_2 : Int) (a2_3 : Int) (r1 : Bool) (r2 : Bool) (w : World) (hr0_0 : Kd.C (Kd.slice 5 (Kd.int .u8)) w A0_0 l0_0.length l0_0) (hc0_0 : l0_0.length ≤ c0_0) (h : spec_AreNear.f k l0_0 a1_0 a1_1 a1_2 a1_3 a2_0 a2_1 a2_2 a2_3 = some (r1, r2)) :
    Calls Tryd.prog 13 #[.agg #[.slice A0_0 l0_0.length c0_0], .agg #[.int .i64 a1_0, .int .i64 a1_1, .int .i64 a1_2, .int .i64 a1_3], .agg #[.int .i64 a2_0, .int .i64 a2_1, .int .i64 a2_2, .int .i64 a2_3]] w fun e w' => e = .returned (.tuple #[.bool r1, .bool r2]) ∧ Below w.heap.size w w' := by
 have hu26 := Tryd.underlying26
 have hu28 := Tryd.underlying28
 have HR0_0 := am hr0_0
 have HC0_0 := am hc0_0
 clear hr0_0 hc0_0
 have HB := am (Below.refl w.heap.size w)
 have H : ((spec_l2Both.f k l0_0 a1_0 a1_1 a1_2 a1_3 a2_0 a2_1 a2_2 a2_3).bind fun t558 => (if t558 = true then ((spec_l3Full.f a1_0 a1_1 a1_2 a1_3).bind fun bt559 => ((spec_l3Full.f a2_0 a2_1 a2_2 a2_3).bind fun bt563 => ((spec_l2Overlap.f bt559.1 bt559.2.1 bt559.2.2.1 bt559.2.2.2 bt563.1 bt563.2.1 bt563.2.2.1 bt563.2.2.2).bind fun t567 => (some (decide (t567 > 0), true))))) else (some (false, false)))) = some (r1, r2) := h
 clear h
 replace H := Option.bind_eq_some_iff.mp H
 obtain ⟨t558, A40, H⟩ := H
 try dsimp only at H
 have A4 := am A40
 clear A40
 by_cases c5 : t558 = true
 ·subst c5
  have H1 : ((spec_l3Full.f a1_0 a1_1 a1_2 a1_3).bind fun bt559 => ((spec_l3Full.f a2_0 a2_1 a2_2 a2_3).bind fun bt563 => ((spec_l2Overlap.f bt559.1 bt559.2.1 bt559.2.2.1 bt559.2.2.2 bt563.1 bt563.2.1 bt563.2.2.1 bt563.2.2.2).bind fun t567 => (some (decide (t567 > 0), true))))) = some (r1, r2) := by rw [if_pos rfl] at H; exact H
  clear H
  have H := H1
  clear H1
  replace H := Option.bind_eq_some_iff.mp H
  obtain ⟨⟨t559, t560, t561, t562⟩, A60, H⟩ := H
  try dsimp only at H
  have A6 := am A60
  clear A60
  replace H := Option.bind_eq_some_iff.mp H
  obtain ⟨⟨t563, t564, t565, t566⟩, A70, H⟩ := H
  try dsimp only at H
  have A7 := am A70
  clear A70
  replace H := Option.bind_eq_some_iff.mp H
  obtain ⟨t567, A80, H⟩ := H
  try dsimp only at H
  have A8 := am A80
  clear A80
  simp only [Option.some.injEq, Prod.mk.injEq] at H
  obtain ⟨rfl, rfl⟩ := H
  go_enter Tryd.func13, Tryd.ntmps13
  try go_wp2_with (first | ((with_reducible refine gate_dst (N := 3) rfl ?_); refine bE 3 #[.slice A0_0 l0_0.length c0_0] 26 ?_; intro gb555 hg w9 hbox hb; have BK555 := am hbox; have GW555 := gB hg HB; have GE555 := gB hg HB; replace HB := hB hb HB; clear hb hbox hg) | ((with_reducible refine gate_dst (N := 4) rfl ?_); refine bE 4 #[.int .i64 a1_0, .int .i64 a1_1, .int .i64 a1_2, .int .i64 a1_3] 28 ?_; intro gb556 hg w10 hbox hb; have BK556 := am hbox; have GW556 := gB hg HB; have GE556 := gB hg HB; replace HB := hB hb HB; have NB555_556 := nL hg BK555; have NB556_555 := nG hg BK555; replace BK555 := bB hb BK555; clear hb hbox hg) | ((with_reducible refine gate_dst (N := 5) rfl ?_); refine bE 5 #[.int .i64 a2_0, .int .i64 a2_1, .int .i64 a2_2, .int .i64 a2_3] 28 ?_; intro gb557 hg w11 hbox hb; have BK557 := am hbox; have GW557 := gB hg HB; have GE557 := gB hg HB; replace HB := hB hb HB; have NB555_557 := nL hg BK555; have NB557_555 := nG hg BK555; replace BK555 := bB hb BK555; have NB556_557 := nL hg BK556; have NB557_556 := nG hg BK556; replace BK556 := bB hb BK556; clear hb hbox hg; have hnb12 := NB555_556.out; have hnc12 := NB556_555.out; have hnb13 := NB555_557.out; have hnc13 := NB557_555.out; obtain ⟨_, _⟩ := z1 BK555; have hnb15 := NB556_557.out; have hnc15 := NB557_556.out; obtain ⟨_, _, _, _, _, _, _, _⟩ := z4 BK556; obtain ⟨_, _, _, _, _, _, _, _⟩ := z4 BK557) | ((with_reducible refine gate_callee (f := 65) rfl ?_); refine gL 11 Tryd.func65 #[.agg #[.slice A0_0 l0_0.length c0_0], .agg #[.int .i64 a1_0, .int .i64 a1_1, .int .i64 a1_2, .int .i64 a1_3], .agg #[.int .i64 a2_0, .int .i64 a2_1, .int .i64 a2_2, .int .i64 a2_3]] ?_; (with_reducible refine (spec_l2Both.calls k _ _ l0_0 a1_0 a1_1 a1_2 a1_3 a2_0 a2_1 a2_2 a2_3 true _ ?side1 ?side2 A4.out).mono ?_); (case side1 => exact cc (Kd.C_below HR0_0.out HB.out)); (case side2 => exact HC0_0.out); rintro e w18 ⟨rfl, hb⟩; refine ⟨_, rfl, ?_⟩; replace BK555 := bB hb BK555; replace BK556 := bB hb BK556; replace BK557 := bB hb BK557; replace HB := hB hb HB; (try clear hb); (try clear hk); (try clear hi)))
  replace BK555 := am (blk_drew BK555.out)
  replace BK556 := am (blk_drew BK556.out)
  replace BK557 := am (blk_drew BK557.out)
  replace HB := am (below_drew1 HB.out)
  refine start_ (n := 8) (S := fun w' => w'.cell? ⟨gb556, 0, none⟩ = some (.int .i64 a1_0) ∧ w'.cell? ⟨gb556, 1, none⟩ = some (.int .i64 a1_1) ∧ w'.cell? ⟨gb556, 2, none⟩ = some (.int .i64 a1_2) ∧ w'.cell? ⟨gb556, 3, none⟩ = some (.int .i64 a1_3) ∧ w'.cell? ⟨gb557, 0, none⟩ = some (.int .i64 a2_0) ∧ w'.cell? ⟨gb557, 1, none⟩ = some (.int .i64 a2_1) ∧ w'.cell? ⟨gb557, 2, none⟩ = some (.int .i64 a2_2) ∧ w'.cell? ⟨gb557, 3, none⟩ = some (.int .i64 a2_3)) (ds := []) #[ff, ff, ff, ff, ff, ff, ff, ff] (by kernel_rfl) rfl rfl ⟨(blk_cell BK556.out 0).trans rfl, (blk_cell BK556.out 1).trans rfl, (blk_cell BK556.out 2).trans rfl, (blk_cell BK556.out 3).trans rfl, (blk_cell BK557.out 0).trans rfl, (blk_cell BK557.out 1).trans rfl, (blk_cell BK557.out 2).trans rfl, (blk_cell BK557.out 3).trans rfl⟩ (fun hHeld => ?_); refine with_tabW spec_AreNear.tab3 spec_AreNear.bits3 (fun HT_ HW_ => ?_)
  generalize w18.drew = w19 at BK555 BK556 BK557 HB hHeld ⊢
  refine tS 0 13 HT_ HW_ hHeld ?_
  refine tS 2 15 HT_ HW_ hHeld ?_
  refine one_ (i := 1) (N := some 14) #[tt, tt, tt, ff, ff, ff, ff, ff] rfl rfl (one_of HT_.out (by kernel_rfl)) (by decide) (fun K hK => ?_)
  refine goes_ Tryd.func70 (by kernel_rfl) rfl #[.agg #[.int .i64 a1_0, .int .i64 a1_1, .int .i64 a1_2, .int .i64 a1_3]] (by rfl) rfl rfl (by (try simp only [List.map_toArray, List.map_cons, List.map_nil]); first | done | rfl | (simp only [List.length_drop, List.length_take]; rfl)) ?_
  with_reducible refine (spec_l3Full.calls a1_0 a1_1 a1_2 a1_3 t559 t560 t561 t562 _ A6.out).mono ?_
  rintro e w20 ⟨rfl, hb⟩
  refine ⟨_, rfl, ?_⟩
  replace BK555 := bB hb BK555
  replace BK556 := bB hb BK556
  replace BK557 := bB hb BK557
  replace HB := hB hb HB
  (try clear hb)
  (try clear hb2)
  (try clear hk)
  (try clear hi)
  refine hK.out _ _ ⟨(blk_cell BK556.out 0).trans rfl, (blk_cell BK556.out 1).trans rfl, (blk_cell BK556.out 2).trans rfl, (blk_cell BK556.out 3).trans rfl, (blk_cell BK557.out 0).trans rfl, (blk_cell BK557.out 1).trans rfl, (blk_cell BK557.out 2).trans rfl, (blk_cell BK557.out 3).trans rfl⟩ (fun hHeld => ?_)
  clear hK K
  refine nP 14 ?_
  refine one_ (i := 3) (N := some 16) #[tt, tt, tt, tt, ff, ff, ff, ff] rfl rfl (one_of HT_.out (by kernel_rfl)) (by decide) (fun K hK => ?_)
  refine goes_ Tryd.func70 (by kernel_rfl) rfl #[.agg #[.int .i64 a2_0, .int .i64 a2_1, .int .i64 a2_2, .int .i64 a2_3]] (by rfl) rfl rfl (by (try simp only [List.map_toArray, List.map_cons, List.map_nil]); first | done | rfl | (simp only [List.length_drop, List.length_take]; rfl)) ?_
  with_reducible refine (spec_l3Full.calls a2_0 a2_1 a2_2 a2_3 t563 t564 t565 t566 _ A7.out).mono ?_
  rintro e w21 ⟨rfl, hb⟩
  refine ⟨_, rfl, ?_⟩
  replace BK555 := bB hb BK555
  replace BK556 := bB hb BK556
  replace BK557 := bB hb BK557
  replace HB := hB hb HB
  (try clear hb)
  (try clear hb2)
  (try clear hk)
  (try clear hi)
  refine hK.out _ _ ⟨(blk_cell BK556.out 0).trans rfl, (blk_cell BK556.out 1).trans rfl, (blk_cell BK556.out 2).trans rfl, (blk_cell BK556.out 3).trans rfl, (blk_cell BK557.out 0).trans rfl, (blk_cell BK557.out 1).trans rfl, (blk_cell BK557.out 2).trans rfl, (blk_cell BK557.out 3).trans rfl⟩ (fun hHeld => ?_)
  clear hK K
  refine nP 16 ?_
  refine one_ (i := 4) (N := some 17) #[tt, tt, tt, tt, tt, ff, ff, ff] rfl rfl (one_of HT_.out (by kernel_rfl)) (by decide) (fun K hK => ?_)
  refine goes_ Tryd.func66 (by kernel_rfl) rfl #[.agg #[.int .i64 t559, .int .i64 t560, .int .i64 t561, .int .i64 t562], .agg #[.int .i64 t563, .int .i64 t564, .int .i64 t565, .int .i64 t566]] (by rfl) rfl rfl (by (try simp only [List.map_toArray, List.map_cons, List.map_nil]); first | done | rfl | (simp only [List.length_drop, List.length_take]; rfl)) ?_
  with_reducible refine (spec_l2Overlap.calls t559 t560 t561 t562 t563 t564 t565 t566 t567 _ A8.out).mono ?_
  rintro e w22 ⟨rfl, hb⟩
  refine ⟨_, rfl, ?_⟩
  replace BK555 := bB hb BK555
  replace BK556 := bB hb BK556
  replace BK557 := bB hb BK557
  replace HB := hB hb HB
  (try clear hb)
  (try clear hb2)
  (try clear hk)
  (try clear hi)
  refine hK.out _ _ ⟨(blk_cell BK556.out 0).trans rfl, (blk_cell BK556.out 1).trans rfl, (blk_cell BK556.out 2).trans rfl, (blk_cell BK556.out 3).trans rfl, (blk_cell BK557.out 0).trans rfl, (blk_cell BK557.out 1).trans rfl, (blk_cell BK557.out 2).trans rfl, (blk_cell BK557.out 3).trans rfl⟩ (fun hHeld => ?_)
  clear hK K
  refine nP 17 ?_
  refine pS 5 18 HT_ ?_
  refine pS 6 6 HT_ ?_
  refine pS 7 7 HT_ ?_
  refine done_ (done_of HT_.out (by kernel_rfl)) ?_
  try go_wp2
  go_ret2
  exact ⟨by first | rfl | (simp [*, errW_none, errW_some] <;> rfl), bs HB⟩
 ·replace c5 := Bool.eq_false_iff.mpr c5
  subst c5
  have H1 : (some (false, false)) = some (r1, r2) := by rw [if_neg (show ¬ (false = true) by decide)] at H; exact H
  clear H
  have H := H1
  clear H1
  simp only [Option.some.injEq, Prod.mk.injEq] at H
  obtain ⟨rfl, rfl⟩ := H
  go_enter Tryd.func13, Tryd.ntmps13
  go_wp2_with (first | ((with_reducible refine gate_dst (N := 3) rfl ?_); refine bE 3 #[.slice A0_0 l0_0.length c0_0] 26 ?_; intro gb555 hg w23 hbox hb; have BK555 := am hbox; have GW555 := gB hg HB; have GE555 := gB hg HB; replace HB := hB hb HB; clear hb hbox hg) | ((with_reducible refine gate_dst (N := 4) rfl ?_); refine bE 4 #[.int .i64 a1_0, .int .i64 a1_1, .int .i64 a1_2, .int .i64 a1_3] 28 ?_; intro gb556 hg w24 hbox hb; have BK556 := am hbox; have GW556 := gB hg HB; have GE556 := gB hg HB; replace HB := hB hb HB; have NB555_556 := nL hg BK555; have NB556_555 := nG hg BK555; replace BK555 := bB hb BK555; clear hb hbox hg) | ((with_reducible refine gate_dst (N := 5) rfl ?_); refine bE 5 #[.int .i64 a2_0, .int .i64 a2_1, .int .i64 a2_2, .int .i64 a2_3] 28 ?_; intro gb557 hg w25 hbox hb; have BK557 := am hbox; have GW557 := gB hg HB; have GE557 := gB hg HB; replace HB := hB hb HB; have NB555_557 := nL hg BK555; have NB557_555 := nG hg BK555; replace BK555 := bB hb BK555; have NB556_557 := nL hg BK556; have NB557_556 := nG hg BK556; replace BK556 := bB hb BK556; clear hb hbox hg; have hnb26 := NB555_556.out; have hnc26 := NB556_555.out; have hnb27 := NB555_557.out; have hnc27 := NB557_555.out; obtain ⟨_, _⟩ := z1 BK555; have hnb29 := NB556_557.out; have hnc29 := NB557_556.out; obtain ⟨_, _, _, _, _, _, _, _⟩ := z4 BK556; obtain ⟨_, _, _, _, _, _, _, _⟩ := z4 BK557) | ((with_reducible refine gate_callee (f := 65) rfl ?_); refine gL 11 Tryd.func65 #[.agg #[.slice A0_0 l0_0.length c0_0], .agg #[.int .i64 a1_0, .int .i64 a1_1, .int .i64 a1_2, .int .i64 a1_3], .agg #[.int .i64 a2_0, .int .i64 a2_1, .int .i64 a2_2, .int .i64 a2_3]] ?_; (with_reducible refine (spec_l2Both.calls k _ _ l0_0 a1_0 a1_1 a1_2 a1_3 a2_0 a2_1 a2_2 a2_3 false _ ?side1 ?side2 A4.out).mono ?_); (case side1 => exact cc (Kd.C_below HR0_0.out HB.out)); (case side2 => exact HC0_0.out); rintro e w32 ⟨rfl, hb⟩; refine ⟨_, rfl, ?_⟩; replace BK555 := bB hb BK555; replace BK556 := bB hb BK556; replace BK557 := bB hb BK557; replace HB := hB hb HB; (try clear hb); (try clear hk); (try clear hi)))
  go_ret2
  exact ⟨by first | rfl | (simp [*, errW_none, errW_some] <;> rfl), bs HB⟩
structure WIn (w0 w W : World) (g b1 b2 : Nat) (A : Option Addr) (c : Nat) (m : List (List Int)) (l : List Int) (a s : Int) : Prop where
  mem : Kd.S (Kd.slice 5 (Kd.int .u8)) 22 W w.heap.size (fun _ => True) (.slice A m.length c) m
  o1 : W.heap[b1]? = some (.cells #[.slice none 0 0] 26 (0, 0))
  o2 : W.heap[b2]? = some (.cells #[.slice A m.length c] 26 (0, 0))
  st : IsS85 w0 W g l a s
  kp : KeepBut w W g none
  bw : Below w0.heap.size w0 W
  n1 : b1 ≠ g
  n2 : b2 ≠ g
  n3 : b1 ≠ b2
  z : w0.heap.size ≤ w.heap.size
  h1 : w.heap.size ≤ b1
section
variable {w0 w W W1 : World} {g b1 b2 : Nat} {A : Option Addr} {c : Nat} {m : List (List Int)} {l : List Int} {a s a' s' : Int}
theorem WIn.below (h : WIn w0 w W g b1 b2 A c m l a s) (hb : Below W.heap.size W W1) : WIn w0 w W1 g b1 b2 A c m l a s :=
  ⟨Kd.S_below h.mem hb, blk_below h.o1 hb, blk_below h.o2 hb, h.st.below hb, KpB.below h.kp hb, below_step h.bw hb, h.n1, h.n2, h.n3, h.z, h.h1⟩
theorem WIn.call (h : WIn w0 w W g b1 b2 A c m l a s) (hi : IsS85 w0 W1 g l a' s') (hb : Below w0.heap.size w0 W1) (hk : KeepBut W W1 g none) : WIn w0 w W1 g b1 b2 A c m l a' s' :=
  ⟨Kd.S_mono (Kd.S_keep (IsS85.apartS h.st h.mem (by decide)) hk (fun _ h => h.2)) (fun _ h => h.1), KeepBut.blk hk h.o1 h.n1 (by simp), KeepBut.blk hk h.o2 h.n2 (by simp), hi, KeepBut.trans h.kp hk (.inl rfl), hb, h.n1, h.n2, h.n3, h.z, h.h1⟩
theorem WIn.side (h : WIn w0 w W g b1 b2 A c m l a s) : ∀ W_, KeepBut W W_ g none → Kd.C (Kd.slice 5 (Kd.int .u8)) W_ A m.length m :=
  Kd.C_foot_own (Kd.S_R (IsS85.apartS h.st h.mem (by decide))) (fun _ h => h.2)
variable {ok : Nat → Prop} {v : Value} {xs : List S28}
theorem WIn.row (h : WIn w0 w W g b1 b2 A c m l a s) (hk : KeepBut W W1 g none) (ho : Kd.R k28 28 W w.heap.size ok v xs) : Kd.R k28 28 W1 w.heap.size ok v xs :=
  Kd.R_mono (Kd.R_keep (IsS85.apart h.st ho (by decide)) hk (fun _ h => h.2)) (fun _ h => h.1)
theorem WIn.grown (h : WIn w0 w W g b1 b2 A c m l a s) (ho : Kd.R k28 28 W w.heap.size ok v xs) (hb : Below w.heap.size W W1) (hg : W.grownBy W1 v.ownBlock) : WIn w0 w W1 g b1 b2 A c m l a s :=
  ⟨Kd.S_over' h.mem (Kd.R_typed ho) (by decide) hg, blk_grown h.o1 hg (Kd.R_ne ho h.o1 (by decide)), blk_grown h.o2 hg (Kd.R_ne ho h.o2 (by decide)), h.st.grown hg (IsS85.own_ne h.st ho (by decide)), KeepBut.trans h.kp (KeepBut.of_grown hg g) (Kd.R_base2 ho), below_weaken h.bw h.z hb, h.n1, h.n2, h.n3, h.z, h.h1⟩
theorem WIn.fin (h : WIn w0 w W g b1 b2 A c m l a s) (ho : Kd.R k28 28 W w.heap.size ok v xs) :
    Kd.S (Kd.slice 5 (Kd.int .u8)) 22 (W.setCell ⟨b1, 0, none⟩ (.slice A m.length c)) w.heap.size (fun _ => True) (.slice A m.length c) m ∧ Kd.R k28 28 (W.setCell ⟨b1, 0, none⟩ (.slice A m.length c)) w.heap.size (fun _ => True) v xs ∧ IsS85 w0 (W.setCell ⟨b1, 0, none⟩ (.slice A m.length c)) g l a s ∧ Below w0.heap.size w0 (W.setCell ⟨b1, 0, none⟩ (.slice A m.length c)) ∧ KeepBut w (W.setCell ⟨b1, 0, none⟩ (.slice A m.length c)) g none :=
  ⟨Kd.S_mono (Kd.S_far (p := ⟨b1, 0, none⟩) (Kd.S_types h.mem h.o1 (by decide)) (fun _ hk => hk.2) _) (fun _ _ => trivial), Kd.R_mono (Kd.R_far (p := ⟨b1, 0, none⟩) (Kd.R_types ho h.o1 (by decide)) (fun _ hk => hk.2) _) (fun _ _ => trivial), IsS85.far h.st h.n1.symm _, below_set h.bw (Nat.le_trans h.z h.h1), keep_far h.kp h.h1 _⟩
end
mutual
def spec_l1Cur_watched3.l0 : Nat → List (S28) → Int → List Int → Int → Int → List (List Int) → Option ((List (List Int)) × (List (S28)) × Int × Int)
  | 0, _, _, _, _, _, _ => none
  | k + 1, x5, x6, x1000, x1001, x1002, x575000 => if x6 > 0 then ((spec_l1Cur_pair.f k x1000 x1001 x1002 x575000).bind fun bt584 => (if x5.length < 4398046511104 then ((some (x5 ++ [(⟨bt584.1, bt584.2.1, bt584.2.2.1, bt584.2.2.2.1⟩ : S28)] : List (S28))).bind fun y596 => (if x6 > 1 then ((spec_l1Cur_one.f x1000 bt584.2.2.2.2.2.2.2.2.1 bt584.2.2.2.2.2.2.2.2.2 2).bind fun bt599 => (if bt599.1 = true then (if y596.length < 4398046511104 then (spec_l1Cur_watched3.l0 k (y596 ++ [(⟨bt584.2.2.2.2.1, bt584.2.2.2.2.2.1, bt584.2.2.2.2.2.2.1, bt584.2.2.2.2.2.2.2.1⟩ : S28)]) (wrap64 ((wrap64 (x6 - 1)) - 1)) x1000 bt599.2.1 bt599.2.2 x575000) else (none)) else (spec_l1Cur_watched3.l0 k y596 (wrap64 (x6 - 1)) x1000 bt599.2.1 bt599.2.2 x575000))) else (spec_l1Cur_watched3.l0 k y596 (wrap64 (x6 - 1)) x1000 bt584.2.2.2.2.2.2.2.2.1 bt584.2.2.2.2.2.2.2.2.2 x575000))) else (none))) else ((spec_l1Cur_one.f x1000 x1001 x1002 40).bind fun bt605 => (if bt605.1 = true then (spec_l1Cur_watched3.l1 k x5 x1000 bt605.2.1 bt605.2.2 x575000) else (some (x575000, x5, bt605.2.1, bt605.2.2))))
def spec_l1Cur_watched3.l1 : Nat → List (S28) → List Int → Int → Int → List (List Int) → Option ((List (List Int)) × (List (S28)) × Int × Int)
  | 0, _, _, _, _, _ => none
  | k + 1, x5, x1000, x1001, x1002, x575000 => if (x5.length : Int) < 13 then ((spec_l1Cur_window.f k x1000 x1001 x1002 x575000).bind fun bt608 => (if x5.length < 4398046511104 then (spec_l1Cur_watched3.l1 k (x5 ++ [(⟨bt608.1, bt608.2.1, bt608.2.2.1, bt608.2.2.2.1⟩ : S28)]) x1000 bt608.2.2.2.2.1 bt608.2.2.2.2.2 x575000) else (none))) else (some (x575000, x5, x1001, x1002))
end
def spec_l1Cur_watched3.f (k : Nat) (s0_0 : List Int) (s0_1 : Int) (s0_2 : Int) : Option ((List (List Int)) × (List (S28)) × Int × Int) := (spec_l1Cur_memory.f k s0_0 s0_1 s0_2).bind fun bt569 => ((spec_l1Cur_among.f s0_0 bt569.2.1 bt569.2.2 (([3, 4, 2, 5, 1, 0, 7] : List Int))).bind fun bt581 => (spec_l1Cur_watched3.l0 k (([] : List (S28))) bt581.1 s0_0 bt581.2.1 bt581.2.2 bt569.1))
set_option maxHeartbeats 8000000 in
set_option maxRecDepth 100000 in
theorem spec_l1Cur_watched3.calls (k : Nat) (g : Nat) (s0_0 : List Int) (s0_1 : Int) (s0_2 : Int) (r1 : List (List Int)) (r2 : List (S28)) (r3 : Int) (r4 : Int) (w0 w : World) (hI : IsS85 w0 w g s0_0 s0_1 s0_2) (hB : Below w0.heap.size w0 w) (h : spec_l1Cur_watched3.f k s0_0 s0_1 s0_2 = some (r1, r2, r3, r4)) :
    Calls Tryd.prog 112 #[.pointer (some ⟨g, 0, none⟩)] w fun e w' => ∃ v0_ v1_ : Value, e = .returned (.tuple #[.agg #[v0_], v1_]) ∧ Kd.S (Kd.slice 5 (Kd.int .u8)) 22 w' w.heap.size (fun _ => True) v0_ r1 ∧ Kd.R k28 28 w' w.heap.size (fun _ => True) v1_ r2 ∧ IsS85 w0 w' g s0_0 r3 r4 ∧ Below w0.heap.size w0 w' ∧ KeepBut w w' g none := by
 have hu26 := Tryd.underlying26
 have hu28 := Tryd.underlying28
 have HI0 := am hI
 have HK := am (KeepBut.refl w g none)
 have HL := am hB.size
 have HB := am hB
 clear hI hB
 have H : ((spec_l1Cur_memory.f k s0_0 s0_1 s0_2).bind fun bt569 => ((spec_l1Cur_among.f s0_0 bt569.2.1 bt569.2.2 (([3, 4, 2, 5, 1, 0, 7] : List Int))).bind fun bt581 => (spec_l1Cur_watched3.l0 k (([] : List (S28))) bt581.1 s0_0 bt581.2.1 bt581.2.2 bt569.1))) = some (r1, r2, r3, r4) := h
 clear h
 obtain ⟨⟨m, a0, q0⟩, A1, H⟩ := Option.bind_eq_some_iff.mp H
 try dsimp only at H
 have E1 := am A1
 clear A1
 obtain ⟨ys, hys⟩ : ∃ y_ : List Int, y_ = [3, 4, 2, 5, 1, 0, 7] := ⟨_, rfl⟩
 rw [← hys] at H
 have HYS := am hys
 clear hys
 obtain ⟨⟨n0, a1, q1⟩, A2, H⟩ := Option.bind_eq_some_iff.mp H
 try dsimp only at H
 have E2 := am A2
 have HH := am H
 clear A2 H
 go_enter Tryd.func112, Tryd.ntmps112
 go_upto_region 1 with ((with_reducible refine gate_dst (N := 2) rfl ?_); refine bE 2 #[.slice none 0 0] 26 ?_; intro g1 hg w1 hx hb; have HG1 := am hg; have BK1 := am hx; have HD := am hb; clear hg hx hb)
 have hb := HD.out
 have N1 := am (show g1 ≠ g from by rw [HG1.out]; exact Nat.ne_of_gt HI0.out.lt)
 have G1 := am (Nat.le_of_eq HG1.out.symm)
 replace HI0 := am (IsS85.below HI0.out hb)
 replace HK := am (KpB.below HK.out hb)
 replace HB := am (BwB.below HB.out hb)
 clear hb HD HG1
 go_wp2_with (go_at_fn 61; fail)
 refine (spec_l1Cur_memory.calls k g s0_0 s0_1 s0_2 m a0 q0 w0 _ HI0.out HB.out E1.out).mono ?_
 rintro e w2 ⟨v2, rfl, ho, hi, hb, hk⟩
 have HM := am (Kd.S_lower ho HK.out.1)
 replace HK := am (KeepBut.trans HK.out hk (.inl rfl))
 replace BK1 := am (KeepBut.blk hk BK1.out N1.out (by simp))
 replace HI0 := am hi
 replace HB := am hb
 clear ho hi hb hk
 obtain ⟨A, c, eo⟩ := Kd.S_slice HM.out
 subst eo
 have L1 := am (blk_lt BK1.out)
 have L0 := am HI0.out.lt
 go_upto_region 2 with (first | ((with_reducible refine gate_dst (N := 4) rfl ?_); refine bE 4 #[.slice none 0 0] 26 ?_; intro g2 hg w101 hx hb; have HG2 := am hg; have HX2 := am hx; have HD2 := am hb; clear hg hx hb; have HY2 := am HX2.out; have hz2_0 : w101.cell? ⟨g2, 0, none⟩ = some (.slice none 0 0) := (blk_cell HY2.out 0).trans rfl; have hf2_0 := blk_frozen HY2.out 0))
 refine hideW ?_
 intro w102 hW
 clear hz2_0 hf2_0
 have HE2 := am (Nat.le_of_eq HG2.out.symm)
 have hb : Below w2.heap.size w2 w102 := by rw [hW]; exact bel1 HD2.out HE2.out
 have BK2 : Aside0 (w102.heap[g2]? = some (.cells #[.slice A m.length c] 26 (0, 0))) := ⟨by rw [hW]; exact put1 HY2.out⟩
 replace BK1 := am (blk_below BK1.out hb)
 replace HI0 := am (IsS85.below HI0.out hb)
 replace HK := am (KpB.below HK.out hb)
 replace HB := am (BwB.below HB.out hb)
 replace HM := am (MmB.below HM.out hb)
 clear hb hW HG2 HX2 HD2 HY2
 have HIN : Aside0 (WIn w0 w w102 g g1 g2 A c m s0_0 a0 q0) := ⟨⟨HM.out, BK1.out, BK2.out, HI0.out, HK.out, HB.out, N1.out, Nat.ne_of_gt (Nat.lt_of_lt_of_le L0.out HE2.out), Nat.ne_of_lt (Nat.lt_of_lt_of_le L1.out HE2.out), HL.out, G1.out⟩⟩
 clear HM BK1 BK2 HI0 HK HB N1 L0 L1 HE2 HL G1
 go_upto_region 3 with ((with_reducible refine gate_dst (N := 11) rfl ?_); refine Kd.R_lit k28 _ 28 ?hg (N := 11) ?hd (xs := ([] : List (S28))) (inner := []) (ok := fun _ => True) (okp := fun _ => True) ?hr ?hp (fun _ hk => hk) trivial (Below.refl _ _) (Nat.le_refl _) (by simp) ?_; (case hd => rfl); (case hg => rfl); (case hr => first | (go_simp; done) | (go_simp; rfl)); (case hp => exact (Reps.none _ _)); intro v3 w3 ho hb _ _; have HO := am (Kd.R_lower ho HIN.out.kp.1); replace HIN := am (HIN.out.below hb); clear ho hb)
 go_wp2_with (first | ((with_reducible refine gate_dst (N := 13) rfl ?_); refine Kd.R_lit (Kd.int .i64) _ 3 ?hg (N := 13) ?hd (xs := ([3, 4, 2, 5, 1, 0, 7] : List Int)) (inner := [.int .i64 3, .int .i64 4, .int .i64 2, .int .i64 5, .int .i64 1, .int .i64 0, .int .i64 7]) (ok := fun _ => True) (okp := fun _ => True) ?hr ?hp (fun _ hk => hk) trivial (Below.refl _ _) (Nat.le_refl _) (by simp) ?_; (case hd => rfl); (case hg => rfl); (case hr => first | (go_simp; done) | (go_simp; rfl)); (case hp => exact (Reps.one (show Kd.M (Kd.int .i64) _ _ _ 3 [.int .i64 3] from rfl) (Reps.one (show Kd.M (Kd.int .i64) _ _ _ 4 [.int .i64 4] from rfl) (Reps.one (show Kd.M (Kd.int .i64) _ _ _ 2 [.int .i64 2] from rfl) (Reps.one (show Kd.M (Kd.int .i64) _ _ _ 5 [.int .i64 5] from rfl) (Reps.one (show Kd.M (Kd.int .i64) _ _ _ 1 [.int .i64 1] from rfl) (Reps.one (show Kd.M (Kd.int .i64) _ _ _ 0 [.int .i64 0] from rfl) (Reps.one (show Kd.M (Kd.int .i64) _ _ _ 7 [.int .i64 7] from rfl) (Reps.none _ _))))))))); intro v4 w4 ho hb _ _; rw [← HYS.out] at ho; have HY := am (Kd.R_lower ho HIN.out.kp.1); replace HO := am (Kd.R_below HO.out hb); replace HIN := am (HIN.out.below hb); clear ho hb; obtain ⟨Ay, cy, ey⟩ := Kd.R_slice HY.out; subst ey) | (go_at_fn 102; fail))
 refine (spec_l1Cur_among.calls g s0_0 a0 q0 _ _ ys n0 a1 q1 w0 _ HIN.out.st HIN.out.bw (Kd.R_reads' HY.out).2.2 (Kd.R_reads' HY.out).2.1 (far_slice (IsS85.own_ne HIN.out.st HY.out (by decide))) E2.out).mono ?_
 rintro e w5 ⟨rfl, hi, hb, hk⟩
 replace HO := am (HIN.out.row hk HO.out)
 replace HIN := am (HIN.out.call hi hb hk)
 clear hi hb hk HY HYS E1 E2
 go_wp2
 go_loopg [5, 6] k (fun kq v5 v6 w' => ∃ (x5 : List (S28)) (x6 : Int) (a q : Int), v6 = .int .i64 x6 ∧ Aside0 (spec_l1Cur_watched3.l0 kq x5 x6 s0_0 a q m = some (r1, r2, r3, r4)) ∧ Aside0 (kq ≤ k) ∧ Aside0 (Kd.R k28 28 w' w.heap.size (fun _ => True) v5 x5) ∧ Aside0 (WIn w0 w w' g g1 g2 A c m s0_0 a q))
 case atStart => exact ⟨[], n0, a1, q1, rfl, HH, ⟨Nat.le_refl _⟩, HO, HIN⟩
 case round =>
  clear HH HO HIN
  obtain ⟨x5, x6, a, q, rfl, HA, HK1, HO, HIN⟩ := hrel
  cases gk with
  | zero => exact absurd HA.out (by simp [spec_l1Cur_watched3.l0])
  | succ k1 =>
   have H := HA.out
   clear HA
   simp only [spec_l1Cur_watched3.l0] at H
   by_cases c17 : x6 > 0
   ·rw [if_pos c17] at H
    have c17b0 : decide (0 < x6) = true := decide_eq_true c17
    clear c17
    obtain ⟨⟨p0, p1, p2, p3, z0, z1, z2, z3, a1, q1⟩, A180, H⟩ := Option.bind_eq_some_iff.mp H
    have E3 := am A180
    clear A180
    dsimp only at H
    by_cases c19 : x5.length < 4398046511104
    ·rw [if_pos c19, Option.bind_some] at H
     have LM1 := am c19
     clear c19
     obtain ⟨y5, hy5⟩ : ∃ y_ : List (S28), y_ = x5 ++ [(⟨p0, p1, p2, p3⟩ : S28)] := ⟨_, rfl⟩
     rw [← hy5] at H
     have HY5 := am hy5
     have HH := am H
     clear hy5 H
     have hzm : wr.cell? ⟨g2, 0, none⟩ = some (.slice A m.length c) := (blk_cell HIN.out.o2 0).trans rfl
     have hfm := blk_frozen HIN.out.o2 0
     go_wp2_with (go_at_fn 62; fail)
     refine (spec_l1Cur_pair.calls k1 g s0_0 a q _ _ m p0 p1 p2 p3 z0 z1 z2 z3 a1 q1 w0 _ HIN.out.st HIN.out.bw HIN.out.side (Kd.S_reads' HIN.out.mem).2.1 E3.out).mono ?_
     rintro e w6 ⟨rfl, hi, hb, hk⟩
     clear hzm hfm
     replace HO := am (HIN.out.row hk HO.out)
     replace HIN := am (HIN.out.call hi hb hk)
     clear hi hb hk E3
     have L0 := am HIN.out.st.lt
     go_upto_region 7 with (first | ((with_reducible refine gate_dst (N := 7) rfl ?_); refine bE 7 #[.int .i64 0, .int .i64 0, .int .i64 0, .int .i64 0] 28 ?_; intro g7 hg w103 hx hb; have HG7 := am hg; have HX7 := am hx; have HD7 := am hb; clear hg hx hb) | ((with_reducible refine gate_dst (N := 8) rfl ?_); refine bE 8 #[.int .i64 0, .int .i64 0, .int .i64 0, .int .i64 0] 28 ?_; intro g8 hg w104 hx hb; have HG8 := am hg; have HX8 := am hx; have HD8 := am hb; clear hg hx hb; have HY7 := am (blk_below HX7.out HD8.out); have HY8 := am HX8.out; have HN7_8 := am (show g7 ≠ g8 from by rw [HG8.out]; exact Nat.ne_of_lt (blk_lt HX7.out)); have hn7_8 := HN7_8.out; have hm7_8 := HN7_8.out.symm; have hz7_0 : w104.cell? ⟨g7, 0, none⟩ = some (.int .i64 0) := (blk_cell HY7.out 0).trans rfl; have hf7_0 := blk_frozen HY7.out 0; have hz7_1 : w104.cell? ⟨g7, 1, none⟩ = some (.int .i64 0) := (blk_cell HY7.out 1).trans rfl; have hf7_1 := blk_frozen HY7.out 1; have hz7_2 : w104.cell? ⟨g7, 2, none⟩ = some (.int .i64 0) := (blk_cell HY7.out 2).trans rfl; have hf7_2 := blk_frozen HY7.out 2; have hz7_3 : w104.cell? ⟨g7, 3, none⟩ = some (.int .i64 0) := (blk_cell HY7.out 3).trans rfl; have hf7_3 := blk_frozen HY7.out 3; have hz8_0 : w104.cell? ⟨g8, 0, none⟩ = some (.int .i64 0) := (blk_cell HY8.out 0).trans rfl; have hf8_0 := blk_frozen HY8.out 0; have hz8_1 : w104.cell? ⟨g8, 1, none⟩ = some (.int .i64 0) := (blk_cell HY8.out 1).trans rfl; have hf8_1 := blk_frozen HY8.out 1; have hz8_2 : w104.cell? ⟨g8, 2, none⟩ = some (.int .i64 0) := (blk_cell HY8.out 2).trans rfl; have hf8_2 := blk_frozen HY8.out 2; have hz8_3 : w104.cell? ⟨g8, 3, none⟩ = some (.int .i64 0) := (blk_cell HY8.out 3).trans rfl; have hf8_3 := blk_frozen HY8.out 3))
     refine hideW ?_
     intro w105 hW
     clear hz7_0 hf7_0 hz7_1 hf7_1 hz7_2 hf7_2 hz7_3 hf7_3 hz8_0 hf8_0 hz8_1 hf8_1 hz8_2 hf8_2 hz8_3 hf8_3 hn7_8 hm7_8
     have HE7 := am (Nat.le_of_eq HG7.out.symm)
     have HE8 := am (Nat.le_trans (below_size HD7.out) (Nat.le_of_eq HG8.out.symm))
     have hb : Below w6.heap.size w6 w105 := by rw [hW]; exact bel4 (bel4 (below_step HD7.out HD8.out) HE7.out) HE8.out
     have BK7 : Aside0 (w105.heap[g7]? = some (.cells #[.int .i64 p0, .int .i64 p1, .int .i64 p2, .int .i64 p3] 28 (0, 0))) := ⟨by rw [hW]; exact far4 (put4 HY7.out) HN7_8.out⟩
     have BK8 : Aside0 (w105.heap[g8]? = some (.cells #[.int .i64 z0, .int .i64 z1, .int .i64 z2, .int .i64 z3] 28 (0, 0))) := ⟨by rw [hW]; exact put4 (far4 HY8.out HN7_8.out.symm)⟩
     replace HIN := am (WIn.below HIN.out hb)
     replace HO := am (Kd.R_mono (Kd.R_below (Kd.R_elderB (Kd.R_elderB HO.out g7 HE7.out) g8 HE8.out) hb) (fun k_ h_ => (⟨h_.1.2, h_.2⟩ : k_ ≠ g7 ∧ k_ ≠ g8)))
     clear hb hW HG7 HX7 HD7 HY7 HG8 HX8 HD8 HY8 HN7_8
     have N7 := am (Nat.ne_of_gt (Nat.lt_of_lt_of_le L0.out HE7.out))
     have N8 := am (Nat.ne_of_gt (Nat.lt_of_lt_of_le L0.out HE8.out))
     clear L0 HE7 HE8
     have hz7_0 : w105.cell? ⟨g7, 0, none⟩ = some (.int .i64 p0) := (blk_cell BK7.out 0).trans rfl
     have hz7_1 : w105.cell? ⟨g7, 1, none⟩ = some (.int .i64 p1) := (blk_cell BK7.out 1).trans rfl
     have hz7_2 : w105.cell? ⟨g7, 2, none⟩ = some (.int .i64 p2) := (blk_cell BK7.out 2).trans rfl
     have hz7_3 : w105.cell? ⟨g7, 3, none⟩ = some (.int .i64 p3) := (blk_cell BK7.out 3).trans rfl
     go_upto_region 8 with (((with_reducible refine gate_builtin (b := .append) (xs := #[.tmp 25, .tmp 27]) rfl ?_); at_builtin; refine Kd.R_append k28 w.heap.size rfl (.tmp 25) (.tmp 27) 35 28 (.agg #[(.int .i64 0), (.int .i64 0), (.int .i64 0), (.int .i64 0)]) 32 rfl Tryd.underlying35 info28 rfl (by decide) (by omega) u5 x5 (⟨p0, p1, p2, p3⟩ : S28) [.int .i64 p0, .int .i64 p1, .int .i64 p2, .int .i64 p3] (fun k_ => k_ ≠ g7 ∧ k_ ≠ g8) (fun _ => False) (by first | (go_simp; done) | (go_simp; rfl)) (by first | (go_simp; done) | (go_simp; rfl)) ?aP (fun _ hk => hk.elim) ?aF ?aO (Below.refl _ _) ?aS ?aL ?_; (case aP => exact k28_mkM _ _ _ (⟨p0, p1, p2, p3⟩ : S28)); (case aF => exact fun k_ hk => ⟨Kd.freshB BK7.out k_ hk, Kd.freshB BK8.out k_ hk⟩); (case aO => exact HO.out); (case aS => exact HIN.out.kp.1); (case aL => have := LM1.out; omega); intro v25 w25 ho hb hg hat; rw [← HY5.out] at ho; replace BK7 := am (blk_grown BK7.out hg (Kd.R_away HO.out (fun _ hk => hk.1))); replace BK8 := am (blk_grown BK8.out hg (Kd.R_away HO.out (fun _ hk => hk.2))); replace HIN := am (HIN.out.grown HO.out hb hg); replace HO := am ho; clear ho hb hg hat))
     clear hz7_0 hz7_1 hz7_2 hz7_3
     have H := HH.out
     clear HH
     by_cases c20 : x6 > 1
     ·rw [if_pos c20] at H
      have c20b0 : decide (1 < x6) = true := decide_eq_true c20
      clear c20
      obtain ⟨⟨t0, a2, q2⟩, A210, H⟩ := Option.bind_eq_some_iff.mp H
      have E4 := am A210
      clear A210
      dsimp only at H
      cases t0 with
      | true =>
       rw [if_pos rfl] at H
       by_cases c23 : y5.length < 4398046511104
       ·rw [if_pos c23] at H
        have LM2 := am c23
        clear c23
        obtain ⟨y6, hy6⟩ : ∃ y_ : List (S28), y_ = y5 ++ [(⟨z0, z1, z2, z3⟩ : S28)] := ⟨_, rfl⟩
        rw [← hy6] at H
        have HY6 := am hy6
        have HH := am H
        clear hy6 H
        go_upto_region 9 with (go_at_call 108; refine (spec_l1Cur_one.calls g s0_0 a1 q1 2 true a2 q2 w0 _ HIN.out.st HIN.out.bw E4.out).mono ?_; rintro e w7 ⟨rfl, hi, hb, hk⟩; replace BK7 := am (KeepBut.blk hk BK7.out N7.out (by simp)); replace BK8 := am (KeepBut.blk hk BK8.out N8.out (by simp)); replace HO := am (HIN.out.row hk HO.out); replace HIN := am (HIN.out.call hi hb hk); clear hi hb hk)
        have hz8_0 : w7.cell? ⟨g8, 0, none⟩ = some (.int .i64 z0) := (blk_cell BK8.out 0).trans rfl
        have hz8_1 : w7.cell? ⟨g8, 1, none⟩ = some (.int .i64 z1) := (blk_cell BK8.out 1).trans rfl
        have hz8_2 : w7.cell? ⟨g8, 2, none⟩ = some (.int .i64 z2) := (blk_cell BK8.out 2).trans rfl
        have hz8_3 : w7.cell? ⟨g8, 3, none⟩ = some (.int .i64 z3) := (blk_cell BK8.out 3).trans rfl
        go_wp2_with (((with_reducible refine gate_builtin (b := .append) (xs := #[.tmp 35, .tmp 37]) rfl ?_); at_builtin; refine Kd.R_append k28 w.heap.size rfl (.tmp 35) (.tmp 37) 35 28 (.agg #[(.int .i64 0), (.int .i64 0), (.int .i64 0), (.int .i64 0)]) 32 rfl Tryd.underlying35 info28 rfl (by decide) (by omega) v25 y5 (⟨z0, z1, z2, z3⟩ : S28) [.int .i64 z0, .int .i64 z1, .int .i64 z2, .int .i64 z3] (fun k_ => k_ ≠ g7 ∧ k_ ≠ g8) (fun _ => False) (by first | (go_simp; done) | (go_simp; rfl)) (by first | (go_simp; done) | (go_simp; rfl)) ?aP (fun _ hk => hk.elim) ?aF ?aO (Below.refl _ _) ?aS ?aL ?_; (case aP => exact k28_mkM _ _ _ (⟨z0, z1, z2, z3⟩ : S28)); (case aF => exact fun k_ hk => ⟨Kd.freshB BK7.out k_ hk, Kd.freshB BK8.out k_ hk⟩); (case aO => exact HO.out); (case aS => exact HIN.out.kp.1); (case aL => have := LM2.out; omega); intro v35 w35 ho hb hg hat; rw [← HY6.out] at ho; replace HIN := am (HIN.out.grown HO.out hb hg); replace HO := am ho; clear ho hb hg hat))
        go_roundg k1
        case measure => have := HK1.out; omega
        case rel => exact ⟨y6, wrap64 (wrap64 (x6 - 1) - 1), a2, q2, (by first | rfl | (simp; done)), HH, ⟨by have := HK1.out; omega⟩, ⟨Kd.R_mono HO.out (fun _ _ => trivial)⟩, HIN⟩
       ·rw [if_neg c23] at H; exact absurd H (by simp)
      | false =>
       rw [if_neg Bool.false_ne_true] at H
       have HH := am H
       clear H
       go_wp2_with (go_at_call 108; refine (spec_l1Cur_one.calls g s0_0 a1 q1 2 false a2 q2 w0 _ HIN.out.st HIN.out.bw E4.out).mono ?_; rintro e w7 ⟨rfl, hi, hb, hk⟩; replace BK7 := am (KeepBut.blk hk BK7.out N7.out (by simp)); replace BK8 := am (KeepBut.blk hk BK8.out N8.out (by simp)); replace HO := am (HIN.out.row hk HO.out); replace HIN := am (HIN.out.call hi hb hk); clear hi hb hk)
       go_roundg k1
       case measure => have := HK1.out; omega
       case rel => exact ⟨y5, wrap64 (x6 - 1), a2, q2, (by first | rfl | (simp; done)), HH, ⟨by have := HK1.out; omega⟩, ⟨Kd.R_mono HO.out (fun _ _ => trivial)⟩, HIN⟩
     ·rw [if_neg c20] at H
      have c20b0 : decide (1 < x6) = false := decide_eq_false c20
      clear c20
      have HH := am H
      clear H
      go_wp2
      go_roundg k1
      case measure => have := HK1.out; omega
      case rel => exact ⟨y5, wrap64 (x6 - 1), a1, q1, (by first | rfl | (simp; done)), HH, ⟨by have := HK1.out; omega⟩, ⟨Kd.R_mono HO.out (fun _ _ => trivial)⟩, HIN⟩
    ·rw [if_neg c19] at H; exact absurd H (by simp)
   ·rw [if_neg c17] at H
    have c17b0 : decide (0 < x6) = false := decide_eq_false c17
    clear c17
    obtain ⟨⟨t0, a1, q1⟩, A760, H⟩ := Option.bind_eq_some_iff.mp H
    have E5 := am A760
    clear A760
    dsimp only at H
    go_wp2_with (go_at_fn 108; fail)
    refine (spec_l1Cur_one.calls g s0_0 a q 40 t0 a1 q1 w0 _ HIN.out.st HIN.out.bw E5.out).mono ?_
    rintro e w8 ⟨rfl, hi, hb, hk⟩
    replace HO := am (HIN.out.row hk HO.out)
    replace HIN := am (HIN.out.call hi hb hk)
    clear hi hb hk E5
    cases t0 with
    | true =>
     rw [if_pos rfl] at H
     have HH := am H
     clear H
     go_wp2
     go_loopg [5] k1 (fun kq v5 w' => ∃ (x5 : List (S28)) (a q : Int), Aside0 (spec_l1Cur_watched3.l1 kq x5 s0_0 a q m = some (r1, r2, r3, r4)) ∧ Aside0 (kq ≤ k1) ∧ Aside0 (Kd.R k28 28 w' w.heap.size (fun _ => True) v5 x5) ∧ Aside0 (WIn w0 w w' g g1 g2 A c m s0_0 a q))
     case atStart => exact ⟨x5, a1, q1, HH, ⟨Nat.le_refl _⟩, HO, HIN⟩
     case round =>
      clear HH HO HIN HK1
      obtain ⟨x7, a2, q2, HA, HK2, HO, HIN⟩ := hrel
      cases gk with
      | zero => exact absurd HA.out (by simp [spec_l1Cur_watched3.l1])
      | succ k2 =>
       have H := HA.out
       clear HA
       simp only [spec_l1Cur_watched3.l1] at H
       obtain ⟨Ax, cx, ex⟩ := Kd.R_slice HO.out
       subst ex
       by_cases c80 : (x7.length : Int) < 13
       ·rw [if_pos c80] at H
        have c80b : decide ((x7.length : Int) < 13) = true := decide_eq_true c80
        clear c80
        obtain ⟨⟨p0, p1, p2, p3, a3, q3⟩, A81, H⟩ := Option.bind_eq_some_iff.mp H
        have E6 := am A81
        clear A81
        dsimp only at H
        by_cases c82 : x7.length < 4398046511104
        ·rw [if_pos c82] at H
         have LM3 := am c82
         clear c82
         obtain ⟨y7, hy7⟩ : ∃ y_ : List (S28), y_ = x7 ++ [(⟨p0, p1, p2, p3⟩ : S28)] := ⟨_, rfl⟩
         rw [← hy7] at H
         have HY7 := am hy7
         have HH := am H
         clear hy7 H
         have hzm : wr.cell? ⟨g2, 0, none⟩ = some (.slice A m.length c) := (blk_cell HIN.out.o2 0).trans rfl
         have hfm := blk_frozen HIN.out.o2 0
         go_wp2_with (go_at_fn 107; fail)
         refine (spec_l1Cur_window.calls k2 g s0_0 a2 q2 _ _ m p0 p1 p2 p3 a3 q3 w0 _ HIN.out.st HIN.out.bw HIN.out.side (Kd.S_reads' HIN.out.mem).2.1 E6.out).mono ?_
         rintro e w9 ⟨rfl, hi, hb, hk⟩
         clear hzm hfm
         replace HO := am (HIN.out.row hk HO.out)
         replace HIN := am (HIN.out.call hi hb hk)
         clear hi hb hk E6
         go_wp2_with (((with_reducible refine gate_builtin (b := .append) (xs := #[.tmp 46, .tmp 50]) rfl ?_); at_builtin; refine Kd.R_append k28 w.heap.size rfl (.tmp 46) (.tmp 50) 35 28 (.agg #[(.int .i64 0), (.int .i64 0), (.int .i64 0), (.int .i64 0)]) 32 rfl Tryd.underlying35 info28 rfl (by decide) (by omega) (.slice Ax x7.length cx) x7 (⟨p0, p1, p2, p3⟩ : S28) [.int .i64 p0, .int .i64 p1, .int .i64 p2, .int .i64 p3] (fun _ => True) (fun _ => False) (by first | (go_simp; done) | (go_simp; rfl)) (by first | (go_simp; done) | (go_simp; rfl)) ?aP (fun _ hk => hk.elim) ?aF ?aO (Below.refl _ _) ?aS ?aL ?_; (case aP => exact k28_mkM _ _ _ (⟨p0, p1, p2, p3⟩ : S28)); (case aF => exact fun _ _ => trivial); (case aO => exact HO.out); (case aS => exact HIN.out.kp.1); (case aL => have := LM3.out; omega); intro v46 w46 ho hb hg hat; rw [← HY7.out] at ho; replace HIN := am (HIN.out.grown HO.out hb hg); replace HO := am ho; clear ho hb hg hat))
         go_roundg k2
         case measure => have := HK2.out; omega
         case rel => exact ⟨y7, a3, q3, HH, ⟨by have := HK2.out; omega⟩, HO, HIN⟩
        ·rw [if_neg c82] at H; exact absurd H (by simp)
       ·rw [if_neg c80] at H
        have c80b : decide ((x7.length : Int) < 13) = false := decide_eq_false c80
        clear c80
        have hzm : wr.cell? ⟨g2, 0, none⟩ = some (.slice A m.length c) := (blk_cell HIN.out.o2 0).trans rfl
        have hfm := blk_frozen HIN.out.o2 0
        have hzn : wr.cell? ⟨g1, 0, none⟩ = some (.slice none 0 0) := (blk_cell HIN.out.o1 0).trans rfl
        have hfn := blk_frozen HIN.out.o1 0
        have hn1 := HIN.out.n3
        have hn2 := HIN.out.n3.symm
        simp only [Option.some.injEq, Prod.mk.injEq] at H
        obtain ⟨rfl, rfl, rfl, rfl⟩ := H
        go_wp2
        refine bodyPost_ret (results_ct rfl _ _ g1 26 #[.slice A m.length c] (0, 0) _ rfl (blk_put HIN.out.o1 0 _ rfl) Tryd.underlying26 rfl (by kernel_rfl)) rfl ?_
        obtain ⟨f1, f2, f3, f4, f5⟩ := HIN.out.fin HO.out
        exact ⟨_, _, rfl, f1, f2, f3, f4, f5⟩
    | false =>
     rw [if_neg Bool.false_ne_true] at H
     have hzm : w8.cell? ⟨g2, 0, none⟩ = some (.slice A m.length c) := (blk_cell HIN.out.o2 0).trans rfl
     have hfm := blk_frozen HIN.out.o2 0
     have hzn : w8.cell? ⟨g1, 0, none⟩ = some (.slice none 0 0) := (blk_cell HIN.out.o1 0).trans rfl
     have hfn := blk_frozen HIN.out.o1 0
     have hn1 := HIN.out.n3
     have hn2 := HIN.out.n3.symm
     simp only [Option.some.injEq, Prod.mk.injEq] at H
     obtain ⟨rfl, rfl, rfl, rfl⟩ := H
     go_wp2
     refine bodyPost_ret (results_ct rfl _ _ g1 26 #[.slice A m.length c] (0, 0) _ rfl (blk_put HIN.out.o1 0 _ rfl) Tryd.underlying26 rfl (by kernel_rfl)) rfl ?_
     obtain ⟨f1, f2, f3, f4, f5⟩ := HIN.out.fin HO.out
     exact ⟨_, _, rfl, f1, f2, f3, f4, f5⟩
def spec_l1Cur_place3.j0 : Nat → Int → Bool → List Int → Int → Int → List (List Int) → Option (Int × Int × Int × Int)
  | 0, _, _, _, _, _, _ => none
  | k + 1, x6, x30, x1000, x1001, x1002, x569000 => if x30 = true then ((spec_l1Cur_among.f x1000 x1001 x1002 (([(-1), 64, 4611686018427387904] : List Int))).bind fun bt589 => (some (x6, bt589.1, bt589.2.1, bt589.2.2))) else (if 0 ≤ x6 then (if x6 < (x569000.length : Int) then ((spec_l1Least.f ((rd_L1 x569000 x6).length : Int) 12).bind fun t593 => ((spec_l1Most.f 1 t593).bind fun t594 => ((spec_l1Cur_pick.f x1000 x1001 x1002 t594).bind fun bt595 => (some (x6, bt595.1, bt595.2.1, bt595.2.2))))) else (none)) else (none))
def spec_l1Cur_place3.f (k : Nat) (s0_0 : List Int) (s0_1 : Int) (s0_2 : Int) (l1_0 : List (List Int)) : Option (Int × Int × Int × Int) := (spec_l1Least.f (l1_0.length : Int) 3).bind fun t569 => ((spec_l1Most.f 1 t569).bind fun t570 => ((spec_l1Cur_pick.f s0_0 s0_1 s0_2 t570).bind fun bt571 => ((spec_l1Cur_one.f s0_0 bt571.2.1 bt571.2.2 24).bind fun bt574 => (if bt574.1 = true then ((spec_l1Cur_among.f s0_0 bt574.2.1 bt574.2.2 (([(-1), (l1_0.length : Int), 4611686018427387904] : List Int))).bind fun bt580 => (some (bt580.1, 0, bt580.2.1, bt580.2.2))) else (if bt571.1 ≥ (l1_0.length : Int) then (spec_l1Cur_place3.j0 k bt571.1 true s0_0 bt574.2.1 bt574.2.2 l1_0) else ((spec_l1Cur_one.f s0_0 bt574.2.1 bt574.2.2 24).bind fun bt583 => (spec_l1Cur_place3.j0 k bt571.1 bt583.1 s0_0 bt583.2.1 bt583.2.2 l1_0)))))))
set_option maxHeartbeats 8000000 in
set_option maxRecDepth 100000 in
theorem spec_l1Cur_place3.calls (k : Nat) (g : Nat) (s0_0 : List Int) (s0_1 : Int) (s0_2 : Int) (A1_0 : Option Addr) (c1_0 : Nat) (l1_0 : List (List Int)) (r1 : Int) (r2 : Int) (r3 : Int) (r4 : Int) (w0 w : World) (hI : IsS85 w0 w g s0_0 s0_1 s0_2) (hB : Below w0.heap.size w0 w) (hr1_0 : ∀ W_, KeepBut w W_ g none → Kd.C (Kd.slice 5 (Kd.int .u8)) W_ A1_0 l1_0.length l1_0) (hc1_0 : l1_0.length ≤ c1_0) (h : spec_l1Cur_place3.f k s0_0 s0_1 s0_2 l1_0 = some (r1, r2, r3, r4)) :
    Calls Tryd.prog 113 #[.pointer (some ⟨g, 0, none⟩), .agg #[.slice A1_0 l1_0.length c1_0]] w fun e w' => e = .returned (.tuple #[.int .i64 r1, .int .i64 r2]) ∧ IsS85 w0 w' g s0_0 r3 r4 ∧ Below w0.heap.size w0 w' ∧ KeepBut w w' g none := by
 have hu26 := Tryd.underlying26
 have HR1_0 := am hr1_0
 have HC1_0 := am hc1_0
 clear hr1_0 hc1_0
 have HI0 := am hI
 have HK := am (KeepBut.refl w g none)
 have HL := am hB.size
 clear hI
 have HW0 := am hB.size
 have HB := am hB
 clear hB
 have H : ((spec_l1Least.f (l1_0.length : Int) 3).bind fun t569 => ((spec_l1Most.f 1 t569).bind fun t570 => ((spec_l1Cur_pick.f s0_0 s0_1 s0_2 t570).bind fun bt571 => ((spec_l1Cur_one.f s0_0 bt571.2.1 bt571.2.2 24).bind fun bt574 => (if bt574.1 = true then ((spec_l1Cur_among.f s0_0 bt574.2.1 bt574.2.2 (([(-1), (l1_0.length : Int), 4611686018427387904] : List Int))).bind fun bt580 => (some (bt580.1, 0, bt580.2.1, bt580.2.2))) else (if bt571.1 ≥ (l1_0.length : Int) then (spec_l1Cur_place3.j0 k bt571.1 true s0_0 bt574.2.1 bt574.2.2 l1_0) else ((spec_l1Cur_one.f s0_0 bt574.2.1 bt574.2.2 24).bind fun bt583 => (spec_l1Cur_place3.j0 k bt571.1 bt583.1 s0_0 bt583.2.1 bt583.2.2 l1_0)))))))) = some (r1, r2, r3, r4) := h
 clear h
 replace H := Option.bind_eq_some_iff.mp H
 obtain ⟨t569, A30, H⟩ := H
 try dsimp only at H
 have A3 := am A30
 clear A30
 replace H := Option.bind_eq_some_iff.mp H
 obtain ⟨t570, A40, H⟩ := H
 try dsimp only at H
 have A4 := am A40
 clear A40
 replace H := Option.bind_eq_some_iff.mp H
 obtain ⟨⟨t571, t572, t573⟩, A50, H⟩ := H
 try dsimp only at H
 have A5 := am A50
 clear A50
 replace H := Option.bind_eq_some_iff.mp H
 obtain ⟨⟨t574, t575, t576⟩, A60, H⟩ := H
 try dsimp only at H
 have A6 := am A60
 clear A60
 by_cases c7 : t574 = true
 ·subst c7
  have H1 : ((spec_l1Cur_among.f s0_0 t575 t576 (([(-1), (l1_0.length : Int), 4611686018427387904] : List Int))).bind fun bt580 => (some (bt580.1, 0, bt580.2.1, bt580.2.2))) = some (r1, r2, r3, r4) := by rw [if_pos rfl] at H; exact H
  clear H
  have H := H1
  clear H1
  obtain ⟨y577, hy577⟩ : ∃ y_ : List Int, y_ = (([(-1), (l1_0.length : Int), 4611686018427387904] : List Int)) := ⟨_, rfl⟩
  replace H : ((spec_l1Cur_among.f s0_0 t575 t576 y577).bind fun bt580 => (some (bt580.1, 0, bt580.2.1, bt580.2.2))) = some (r1, r2, r3, r4) := by first | (rw [hy577]; with_reducible exact H) | (have H2_ := (Option.bind_some _ _).symm.trans H; rw [hy577]; with_reducible exact H2_) | (have H2_ := (Option.bind_some _ _).symm.trans H; with_reducible exact H2_) | with_reducible exact H | (rw [hy577]; exact H) | exact H
  have Ny577 := am hy577
  clear hy577
  replace H := Option.bind_eq_some_iff.mp H
  obtain ⟨⟨t580, t581, t582⟩, A80, H⟩ := H
  try dsimp only at H
  have A8 := am A80
  clear A80
  simp only [Option.some.injEq, Prod.mk.injEq] at H
  obtain ⟨rfl, rfl, rfl, rfl⟩ := H
  go_enter Tryd.func113, Tryd.ntmps113
  go_wp2_with (first | ((with_reducible refine gate_dst (N := 3) rfl ?_); refine bE 3 #[.slice A1_0 l1_0.length c1_0] 26 ?_; intro gb568 hg w9 hbox hb; replace HB := hB hb HB; have BK568 := am hbox; have GW568 := gK hg HK; replace HK := kB hb HK; have GE568 := gT HW0 GW568; have NB0_568 := nLI hg HI0; have NB568_0 := nGI hg HI0; replace HI0 := iB hb HI0; clear hb hbox hg; have hnb10 := NB568_0.out; have hnc10 := NB0_568.out; obtain ⟨_, _⟩ := z1 BK568) | ((with_reducible refine gate_callee (f := 111) rfl ?_); refine gL 11 Tryd.func111 #[.int .i64 (l1_0.length : Int), .int .i64 3] ?_; (with_reducible refine (spec_l1Least.calls (l1_0.length : Int) 3 t569 _ A3.out).mono ?_); rintro e w' ⟨rfl, ⟨nd, rfl⟩⟩; refine ⟨_, rfl, ?_⟩) | ((with_reducible refine gate_callee (f := 67) rfl ?_); refine gL 12 Tryd.func67 #[.int .i64 1, .int .i64 t569] ?_; (with_reducible refine (spec_l1Most.calls 1 t569 t570 _ A4.out).mono ?_); rintro e w' ⟨rfl, ⟨nd, rfl⟩⟩; refine ⟨_, rfl, ?_⟩) | ((with_reducible refine gate_callee (f := 95) rfl ?_); refine gL 13 Tryd.func95 #[.pointer (some ⟨g, 0, none⟩), .int .i64 t570] ?_; (with_reducible refine (spec_l1Cur_pick.calls g s0_0 s0_1 s0_2 t570 t571 t572 t573 w0 _ ?side1 ?side2 A5.out).mono ?_); (case side1 => exact ii HI0); (case side2 => exact bi HB); rintro e w12 ⟨rfl, hi, hb, hk⟩; refine ⟨_, rfl, ?_⟩; replace BK568 := bk hk BK568 NB568_0; replace HK := kT HK hk; replace HB := am hb; replace HI0 := am hi; (try clear hb); (try clear hk); (try clear hi)) | ((with_reducible refine gate_callee (f := 108) rfl ?_); refine gL 15 Tryd.func108 #[.pointer (some ⟨g, 0, none⟩), .int .i64 24] ?_; (with_reducible refine (spec_l1Cur_one.calls g s0_0 t572 t573 24 true t575 t576 w0 _ ?side1 ?side2 A6.out).mono ?_); (case side1 => exact ii HI0); (case side2 => exact bi HB); rintro e w13 ⟨rfl, hi, hb, hk⟩; refine ⟨_, rfl, ?_⟩; replace BK568 := bk hk BK568 NB568_0; replace HK := kT HK hk; replace HB := am hb; replace HI0 := am hi; (try clear hb); (try clear hk); (try clear hi); obtain ⟨_, _⟩ := z1 BK568) | ((with_reducible refine gate_dst (N := 20) rfl ?_); refine Kd.R_lit (Kd.int .i64) _ 3 ?hg (N := 20) ?hd (xs := ([(-1), (l1_0.length : Int), 4611686018427387904] : List Int)) (inner := [.int .i64 (-1), .int .i64 (l1_0.length : Int), .int .i64 4611686018427387904]) (ok := fun _ => True) (okp := fun _ => True) ?hr ?hp (fun _ hk => hk) trivial (Below.refl _ _) (Nat.le_refl _) (by simp) ?_; (case hd => rfl); (case hg => rfl); (case hr => first | (go_simp; done) | (go_simp; rfl)); (case hp => exact (Reps.one (show Kd.M (Kd.int .i64) _ _ _ (-1) [.int .i64 (-1)] from rfl) (Reps.one (show Kd.M (Kd.int .i64) _ _ _ (l1_0.length : Int) [.int .i64 (l1_0.length : Int)] from rfl) (Reps.one (show Kd.M (Kd.int .i64) _ _ _ 4611686018427387904 [.int .i64 4611686018427387904] from rfl) (Reps.none _ _))))); intro v578 w15 ho16 hb hg_ hnew_; clear hg_ hnew_; (first | rw [← Ny577.out] at ho16 | (simp only [Int.reduceToNat] at ho16; rw [← Ny577.out] at ho16)); have HO579 := am (Kd.R_lower ho16 (keep_size (w := w) (g := g) (row := none) (ke HK))); replace HI0 := iB hb HI0; replace BK568 := bB hb BK568; replace HK := kB hb HK; replace HB := hB hb HB; clear hb ho16; obtain ⟨Ao17, co17, eo17⟩ := Kd.R_slice HO579.out; subst eo17) | ((with_reducible refine gate_callee (f := 102) rfl ?_); refine gL 21 Tryd.func102 #[.pointer (some ⟨g, 0, none⟩), .slice Ao17 y577.length co17] ?_; (with_reducible refine (spec_l1Cur_among.calls g s0_0 t575 t576 _ _ y577 t580 t581 t582 w0 _ ?side1 ?side2 ?side3 ?side4 ?side5 A8.out).mono ?_); (case side1 => exact ii HI0); (case side2 => exact bi HB); (case side3 => exact cc (Kd.R_reads' HO579.out).2.2); (case side4 => exact (Kd.R_reads' HO579.out).2.1); (case side5 => exact far_slice (IsS85.own_ne HI0.out HO579.out (by decide))); rintro e w18 ⟨rfl, hi, hb, hk⟩; refine ⟨_, rfl, ?_⟩; replace BK568 := bk hk BK568 NB568_0; replace HO579 := am (Kd.R_mono (Kd.R_keep (IsS85.apart (ii HI0) (rr HO579) (by decide)) hk (fun _ h => h.2)) (fun _ h => h.1)); replace HK := kT HK hk; replace HB := am hb; replace HI0 := am hi; (try clear hb); (try clear hk); (try clear hi)))
  go_ret2
  exact ⟨by first | rfl | (simp [*, errW_none, errW_some] <;> rfl), ii HI0, bi HB, ke HK⟩
 ·replace c7 := Bool.eq_false_iff.mpr c7
  subst c7
  have H1 : (if t571 ≥ (l1_0.length : Int) then (spec_l1Cur_place3.j0 k t571 true s0_0 t575 t576 l1_0) else ((spec_l1Cur_one.f s0_0 t575 t576 24).bind fun bt583 => (spec_l1Cur_place3.j0 k t571 bt583.1 s0_0 bt583.2.1 bt583.2.2 l1_0))) = some (r1, r2, r3, r4) := by rw [if_neg (show ¬ (false = true) by decide)] at H; exact H
  clear H
  have H := H1
  clear H1
  have HC19 := am H
  clear H
  go_enter Tryd.func113, Tryd.ntmps113
  go_upto_region 4 with (first | ((with_reducible refine gate_dst (N := 3) rfl ?_); refine bE 3 #[.slice A1_0 l1_0.length c1_0] 26 ?_; intro gb568 hg w20 hbox hb; replace HB := hB hb HB; have BK568 := am hbox; have GW568 := gK hg HK; replace HK := kB hb HK; have GE568 := gT HW0 GW568; have NB0_568 := nLI hg HI0; have NB568_0 := nGI hg HI0; replace HI0 := iB hb HI0; clear hb hbox hg; have hnb21 := NB568_0.out; have hnc21 := NB0_568.out; obtain ⟨_, _⟩ := z1 BK568) | ((with_reducible refine gate_callee (f := 111) rfl ?_); refine gL 11 Tryd.func111 #[.int .i64 (l1_0.length : Int), .int .i64 3] ?_; (with_reducible refine (spec_l1Least.calls (l1_0.length : Int) 3 t569 _ A3.out).mono ?_); rintro e w' ⟨rfl, ⟨nd, rfl⟩⟩; refine ⟨_, rfl, ?_⟩) | ((with_reducible refine gate_callee (f := 67) rfl ?_); refine gL 12 Tryd.func67 #[.int .i64 1, .int .i64 t569] ?_; (with_reducible refine (spec_l1Most.calls 1 t569 t570 _ A4.out).mono ?_); rintro e w' ⟨rfl, ⟨nd, rfl⟩⟩; refine ⟨_, rfl, ?_⟩) | ((with_reducible refine gate_callee (f := 95) rfl ?_); refine gL 13 Tryd.func95 #[.pointer (some ⟨g, 0, none⟩), .int .i64 t570] ?_; (with_reducible refine (spec_l1Cur_pick.calls g s0_0 s0_1 s0_2 t570 t571 t572 t573 w0 _ ?side1 ?side2 A5.out).mono ?_); (case side1 => exact ii HI0); (case side2 => exact bi HB); rintro e w23 ⟨rfl, hi, hb, hk⟩; refine ⟨_, rfl, ?_⟩; replace BK568 := bk hk BK568 NB568_0; replace HK := kT HK hk; replace HB := am hb; replace HI0 := am hi; (try clear hb); (try clear hk); (try clear hi)) | ((with_reducible refine gate_callee (f := 108) rfl ?_); refine gL 15 Tryd.func108 #[.pointer (some ⟨g, 0, none⟩), .int .i64 24] ?_; (with_reducible refine (spec_l1Cur_one.calls g s0_0 t572 t573 24 false t575 t576 w0 _ ?side1 ?side2 A6.out).mono ?_); (case side1 => exact ii HI0); (case side2 => exact bi HB); rintro e w24 ⟨rfl, hi, hb, hk⟩; refine ⟨_, rfl, ?_⟩; replace BK568 := bk hk BK568 NB568_0; replace HK := kT HK hk; replace HB := am hb; replace HI0 := am hi; (try clear hb); (try clear hk); (try clear hi)))
  (try simp only [Act.put, List.setIfInBounds_toArray, List.set_cons_zero, List.set_cons_succ])
  go_cut [30] (fun v30 wc => ∃ (kq : Nat) (x30_18 : Bool) (x1001_18 : Int) (x1002_18 : Int), v30 = .bool x30_18 ∧ Aside0 (spec_l1Cur_place3.j0 kq t571 x30_18 s0_0 x1001_18 x1002_18 l1_0 = some (r1, r2, r3, r4)) ∧ Aside0 (kq ≤ k) ∧ Aside0 (wc.heap[gb568]? = some (.cells #[(.slice A1_0 l1_0.length c1_0)] 26 (0, 0))) ∧ Aside0 (IsS85 w0 wc g s0_0 x1001_18 x1002_18) ∧ Aside0 (KeepBut w wc g none) ∧ Aside0 (Below w0.heap.size w0 wc))
  case first =>
   have H := HC19.out
   clear HC19
   by_cases c25 : t571 ≥ (l1_0.length : Int)
   ·rw [if_pos c25] at H
    have c25b0 : decide ((l1_0.length : Int) ≤ t571) = true := decide_eq_true c25
    clear c25
    (first | rw [c25b0] | (simp only [i64_w, i32_w]; rw [c25b0]) | skip)
    have H' := am H
    clear H
    have hnb26 := NB568_0.out
    have hnc26 := NB0_568.out
    obtain ⟨_, _⟩ := z1 BK568
    go_wp2
    go_meet
    case rel => exact ⟨_, (true), (t575), (t576), (by first | rfl | (simp; done) | (simp [*]; done)), H', ⟨by first | omega | exact Nat.le_refl _⟩, ⟨kk BK568⟩, ⟨ii HI0⟩, ⟨ke HK⟩, ⟨bi HB⟩⟩
   ·rw [if_neg c25] at H
    have c25b0 : decide ((l1_0.length : Int) ≤ t571) = false := decide_eq_false c25
    clear c25
    (first | rw [c25b0] | (simp only [i64_w, i32_w]; rw [c25b0]) | skip)
    replace H := Option.bind_eq_some_iff.mp H
    obtain ⟨⟨t583, t584, t585⟩, A280, H⟩ := H
    try dsimp only at H
    have A28 := am A280
    clear A280
    have H' := am H
    clear H
    have hnb29 := NB568_0.out
    have hnc29 := NB0_568.out
    obtain ⟨_, _⟩ := z1 BK568
    go_wp2_with (first | (go_at_call 108; (with_reducible refine (spec_l1Cur_one.calls g s0_0 t575 t576 24 t583 t584 t585 w0 _ ?side1 ?side2 A28.out).mono ?_); (case side1 => exact ii HI0); (case side2 => exact bi HB); rintro e w31 ⟨rfl, hi, hb, hk⟩; replace BK568 := bk hk BK568 NB568_0; replace HK := kT HK hk; replace HB := am hb; replace HI0 := am hi; (try clear hb); (try clear hk); (try clear hi)))
    go_meet
    case rel => exact ⟨_, (t583), (t584), (t585), (by first | rfl | (simp; done) | (simp [*]; done)), H', ⟨by first | omega | exact Nat.le_refl _⟩, ⟨kk BK568⟩, ⟨ii HI0⟩, ⟨ke HK⟩, ⟨bi HB⟩⟩
  case rest =>
   clear HC19
   try clear c1
   try clear c2
   try clear p2
   try clear c6
   try clear c7
   try clear c9
   try clear c10
   try clear c11
   try clear c21
   try clear c25
   try clear c25b0
   try clear c26
   try clear c29
   obtain ⟨kq, x30_18, x1001_18, x1002_18, rfl, HA, HJ18, BK568, HI0, HK, HB⟩ := hcut
   cases kq with
   | zero => exact absurd HA.out (by simp [spec_l1Cur_place3.j0])
   | succ kj18 =>
    have H := HA.out
    clear HA
    simp only [spec_l1Cur_place3.j0] at H
    by_cases c32 : x30_18 = true
    ·subst c32
     have H1 : ((spec_l1Cur_among.f s0_0 x1001_18 x1002_18 (([(-1), 64, 4611686018427387904] : List Int))).bind fun bt589 => (some (t571, bt589.1, bt589.2.1, bt589.2.2))) = some (r1, r2, r3, r4) := by rw [if_pos rfl] at H; exact H
     clear H
     have H := H1
     clear H1
     obtain ⟨y586, hy586⟩ : ∃ y_ : List Int, y_ = (([(-1), 64, 4611686018427387904] : List Int)) := ⟨_, rfl⟩
     replace H : ((spec_l1Cur_among.f s0_0 x1001_18 x1002_18 y586).bind fun bt589 => (some (t571, bt589.1, bt589.2.1, bt589.2.2))) = some (r1, r2, r3, r4) := by first | (rw [hy586]; with_reducible exact H) | (have H2_ := (Option.bind_some _ _).symm.trans H; rw [hy586]; with_reducible exact H2_) | (have H2_ := (Option.bind_some _ _).symm.trans H; with_reducible exact H2_) | with_reducible exact H | (rw [hy586]; exact H) | exact H
     have Ny586 := am hy586
     clear hy586
     replace H := Option.bind_eq_some_iff.mp H
     obtain ⟨⟨t589, t590, t591⟩, A330, H⟩ := H
     try dsimp only at H
     have A33 := am A330
     clear A330
     simp only [Option.some.injEq, Prod.mk.injEq] at H
     obtain ⟨rfl, rfl, rfl, rfl⟩ := H
     go_wp2_with (first | ((with_reducible refine gate_dst (N := 33) rfl ?_); refine Kd.R_lit (Kd.int .i64) _ 3 ?hg (N := 33) ?hd (xs := ([(-1), 64, 4611686018427387904] : List Int)) (inner := [.int .i64 (-1), .int .i64 64, .int .i64 4611686018427387904]) (ok := fun _ => True) (okp := fun _ => True) ?hr ?hp (fun _ hk => hk) trivial (Below.refl _ _) (Nat.le_refl _) (by simp) ?_; (case hd => rfl); (case hg => rfl); (case hr => first | (go_simp; done) | (go_simp; rfl)); (case hp => exact (Reps.one (show Kd.M (Kd.int .i64) _ _ _ (-1) [.int .i64 (-1)] from rfl) (Reps.one (show Kd.M (Kd.int .i64) _ _ _ 64 [.int .i64 64] from rfl) (Reps.one (show Kd.M (Kd.int .i64) _ _ _ 4611686018427387904 [.int .i64 4611686018427387904] from rfl) (Reps.none _ _))))); intro v587 w34 ho35 hb hg_ hnew_; clear hg_ hnew_; (first | rw [← Ny586.out] at ho35 | (simp only [Int.reduceToNat] at ho35; rw [← Ny586.out] at ho35)); have HO588 := am (Kd.R_lower ho35 (keep_size (w := w) (g := g) (row := none) (ke HK))); replace BK568 := bB hb BK568; replace HI0 := iB hb HI0; replace HK := kB hb HK; replace HB := hB hb HB; clear hb ho35; obtain ⟨Ao36, co36, eo36⟩ := Kd.R_slice HO588.out; subst eo36) | ((with_reducible refine gate_callee (f := 102) rfl ?_); refine gL 34 Tryd.func102 #[.pointer (some ⟨g, 0, none⟩), .slice Ao36 y586.length co36] ?_; (with_reducible refine (spec_l1Cur_among.calls g s0_0 x1001_18 x1002_18 _ _ y586 t589 t590 t591 w0 _ ?side1 ?side2 ?side3 ?side4 ?side5 A33.out).mono ?_); (case side1 => exact ii HI0); (case side2 => exact bi HB); (case side3 => exact cc (Kd.R_reads' HO588.out).2.2); (case side4 => exact (Kd.R_reads' HO588.out).2.1); (case side5 => exact far_slice (IsS85.own_ne HI0.out HO588.out (by decide))); rintro e w37 ⟨rfl, hi, hb, hk⟩; refine ⟨_, rfl, ?_⟩; replace BK568 := bk hk BK568 NB568_0; replace HO588 := am (Kd.R_mono (Kd.R_keep (IsS85.apart (ii HI0) (rr HO588) (by decide)) hk (fun _ h => h.2)) (fun _ h => h.1)); replace HK := kT HK hk; replace HB := am hb; replace HI0 := am hi; (try clear hb); (try clear hk); (try clear hi)))
     go_ret2
     exact ⟨by first | rfl | (simp [*, errW_none, errW_some] <;> rfl), ii HI0, bi HB, ke HK⟩
    ·replace c32 := Bool.eq_false_iff.mpr c32
     subst c32
     have H1 : (if 0 ≤ t571 then (if t571 < (l1_0.length : Int) then ((spec_l1Least.f ((rd_L1 l1_0 t571).length : Int) 12).bind fun t593 => ((spec_l1Most.f 1 t593).bind fun t594 => ((spec_l1Cur_pick.f s0_0 x1001_18 x1002_18 t594).bind fun bt595 => (some (t571, bt595.1, bt595.2.1, bt595.2.2))))) else (none)) else (none)) = some (r1, r2, r3, r4) := by rw [if_neg (show ¬ (false = true) by decide)] at H; exact H
     clear H
     have H := H1
     clear H1
     by_cases c38 : 0 ≤ t571
     ·rw [if_pos c38] at H
      have c38b0 : decide (0 ≤ t571) = true := decide_eq_true c38
      clear c38
      by_cases c39 : t571 < (l1_0.length : Int)
      ·rw [if_pos c39] at H
       have c39b0 : decide (t571 < (l1_0.length : Int)) = true := decide_eq_true c39
       clear c39
       replace H := Option.bind_eq_some_iff.mp H
       obtain ⟨t593, A400, H⟩ := H
       try dsimp only at H
       have A40 := am A400
       clear A400
       replace H := Option.bind_eq_some_iff.mp H
       obtain ⟨t594, A410, H⟩ := H
       try dsimp only at H
       have A41 := am A410
       clear A410
       replace H := Option.bind_eq_some_iff.mp H
       obtain ⟨⟨t595, t596, t597⟩, A420, H⟩ := H
       try dsimp only at H
       have A42 := am A420
       clear A420
       simp only [Option.some.injEq, Prod.mk.injEq] at H
       obtain ⟨rfl, rfl, rfl, rfl⟩ := H
       have hnb43 := NB568_0.out
       have hnc43 := NB0_568.out
       obtain ⟨_, _⟩ := z1 BK568
       have p592 : 0 ≤ (t571 : Int) := of_decide_eq_true (by assumption)
       have q592 : t571 < (l1_0.length : Int) := of_decide_eq_true (by assumption)
       obtain ⟨ad592, A592_0, c592_0, e592, hx592_0, hl592_0, hi592_0⟩ := at_L1 (Kd.C_foot_now HR1_0.out HK.out) t571 p592 q592
       cases e592
       have HR592_0 := am hi592_0
       have HC592_0 := am hl592_0
       clear hi592_0 hl592_0
       replace p592 := eq_true p592
       replace q592 := eq_true q592
       go_wp2_with (first | ((with_reducible refine gate_callee (f := 111) rfl ?_); refine gL 43 Tryd.func111 #[.int .i64 ((rd_L1 l1_0 t571).length : Int), .int .i64 12] ?_; (with_reducible refine (spec_l1Least.calls ((rd_L1 l1_0 t571).length : Int) 12 t593 _ A40.out).mono ?_); rintro e w' ⟨rfl, ⟨nd, rfl⟩⟩; refine ⟨_, rfl, ?_⟩) | ((with_reducible refine gate_callee (f := 67) rfl ?_); refine gL 44 Tryd.func67 #[.int .i64 1, .int .i64 t593] ?_; (with_reducible refine (spec_l1Most.calls 1 t593 t594 _ A41.out).mono ?_); rintro e w' ⟨rfl, ⟨nd, rfl⟩⟩; refine ⟨_, rfl, ?_⟩) | ((with_reducible refine gate_callee (f := 95) rfl ?_); refine gL 45 Tryd.func95 #[.pointer (some ⟨g, 0, none⟩), .int .i64 t594] ?_; (with_reducible refine (spec_l1Cur_pick.calls g s0_0 x1001_18 x1002_18 t594 t595 t596 t597 w0 _ ?side1 ?side2 A42.out).mono ?_); (case side1 => exact ii HI0); (case side2 => exact bi HB); rintro e w45 ⟨rfl, hi, hb, hk⟩; refine ⟨_, rfl, ?_⟩; replace BK568 := bk hk BK568 NB568_0; replace HK := kT HK hk; replace HB := am hb; replace HI0 := am hi; (try clear hb); (try clear hk); (try clear hi)))
       go_ret2
       exact ⟨by first | rfl | (simp [*, errW_none, errW_some] <;> rfl), ii HI0, bi HB, ke HK⟩
      ·rw [if_neg c39] at H
       exact absurd H (by simp)
     ·rw [if_neg c38] at H
      exact absurd H (by simp)
def spec_DrawNoticedBy.f (k : Nat) (l0 : List Int) : Option ((List (List Int)) × (List (S28)) × Int × Int) := (spec_l1Cur_watched3.f k l0 0 0).bind fun bt600 => ((spec_l1Cur_place3.f k l0 bt600.2.2.1 bt600.2.2.2 bt600.1).bind fun bt609 => (some (bt600.1, bt600.2.1, bt609.1, bt609.2.1)))
set_option maxHeartbeats 8000000 in
set_option maxRecDepth 100000 in
theorem spec_DrawNoticedBy.calls (k : Nat) (A0 : Option Addr) (c0 : Nat) (l0 : List Int) (r1 : List (List Int)) (r2 : List (S28)) (r3 : Int) (r4 : Int) (w : World) (hr0 : Kd.C (Kd.int .u8) w A0 l0.length l0) (hc0 : l0.length ≤ c0) (h : spec_DrawNoticedBy.f k l0 = some (r1, r2, r3, r4)) :
    Calls Tryd.prog 71 #[.slice A0 l0.length c0] w fun e w' => ∃ v0_ v1_ : Value, e = .returned (.tuple #[.agg #[v0_], v1_, .int .i64 r3, .int .i64 r4]) ∧ Kd.S (Kd.slice 5 (Kd.int .u8)) 22 w' w.heap.size (fun _ => True) v0_ r1 ∧ Kd.R k28 28 w' w.heap.size (fun _ => True) v1_ r2 ∧ Below w.heap.size w w' := by
 have hu26 := Tryd.underlying26
 have hu85 := Tryd.underlying85
 have HR0 := Aside0.mk hr0
 have HC0 := Aside0.mk hc0
 clear hr0 hc0
 have HB := Aside0.mk (Below.refl w.heap.size w)
 have H : ((spec_l1Cur_watched3.f k l0 0 0).bind fun bt600 => ((spec_l1Cur_place3.f k l0 bt600.2.2.1 bt600.2.2.2 bt600.1).bind fun bt609 => (some (bt600.1, bt600.2.1, bt609.1, bt609.2.1)))) = some (r1, r2, r3, r4) := h
 clear h
 replace H := Option.bind_eq_some_iff.mp H
 obtain ⟨⟨t600, t603, t606, t607⟩, A20, H⟩ := H
 replace H : ((spec_l1Cur_place3.f k l0 t606 t607 t600).bind fun bt609 => (some (t600, t603, bt609.1, bt609.2.1))) = some (r1, r2, r3, r4) := H
 have A2 := Aside0.mk A20
 clear A20
 replace H := Option.bind_eq_some_iff.mp H
 obtain ⟨⟨t609, t610, t611, t612⟩, A30, H⟩ := H
 replace H : (some (t600, t603, t609, t610)) = some (r1, r2, r3, r4) := H
 have A3 := Aside0.mk A30
 clear A30
 simp only [Option.some.injEq, Prod.mk.injEq] at H
 obtain ⟨rfl, rfl, rfl, rfl⟩ := H
 go_enter Tryd.func71, Tryd.ntmps71
 go_wp2_with (first | ((with_reducible refine gate_dst (N := 2) rfl ?_); refine box_event ?hg (N := 2) ?hd (cs := #[.slice none 0 0]) (t := 26) ?hr ?_; (case hd => rfl); (case hg => rfl); (case hr => first | (go_simp; done) | (go_simp; rfl)); intro gb598 hg w4 hbox hb; have n0_ := hB hb HB; have n1_ := Aside0.mk (hbox); have n2_ := gB hg HB; have n3_ := gB hg HB; clear HB; have HB := n0_; have BK598 := n1_; have GW598 := n2_; have GE598 := n3_; clear n0_ n1_ n2_ n3_; clear hb hbox hg) | ((with_reducible refine gate_dst (N := 13) rfl ?_); refine box_event ?hg (N := 13) ?hd (cs := #[.slice A0 l0.length c0, .int .i64 0, .int .u64 0]) (t := 85) ?hr ?_; (case hd => rfl); (case hg => rfl); (case hr => first | (go_simp; done) | (go_simp; rfl)); intro gb599 hg w5 hbox hb; have n0_ := bB hb BK598; have n1_ := hB hb HB; have n2_ := Aside0.mk ((show IsS85 w w5 gb599 l0 0 0 from ⟨_, _, hbox, (by rw [hg]; exact (below_size (by repeat (first | (with_reducible first | apply below_alloc | apply pw_below_drewN | apply below_drew1 | refine below_set ?_ GE598.out) | exact HB.out))) : w.heap.size ≤ gb599), HR0.out⟩)); have n3_ := gB hg HB; have n4_ := gB hg HB; have n5_ := nL hg BK598; have n6_ := nG hg BK598; clear BK598; clear HB; have BK598 := n0_; have HB := n1_; have HI599 := n2_; have GW599 := n3_; have GE599 := n4_; have NB598_599 := n5_; have NB599_598 := n6_; clear n0_ n1_ n2_ n3_ n4_ n5_ n6_; clear hb hbox hg) | ((with_reducible refine gate_callee (f := 112) rfl ?_); refine goesL_ (some 16) rfl rfl Tryd.func112 (by kernel_rfl) rfl #[.pointer (some ⟨gb599, 0, none⟩)] rfl (by (try simp only [List.map_toArray, List.map_cons, List.map_nil]); first | done | rfl | (simp only [List.length_drop, List.length_take]; rfl)) ?_; (with_reducible refine (spec_l1Cur_watched3.calls k gb599 l0 0 0 t600 t603 t606 t607 w _ ?side1 ?side2 A2.out).mono ?_); (case side1 => repeat (first | (with_reducible first | exact HI599.out | apply IsS85.alloc | apply IsS85.drewN | apply IsS85.drew | apply IsS85.set_1 | apply IsS85.set_2 | refine IsS85.far ?_ NB599_598.out _) | exact HI599.out)); (case side2 => repeat (first | (with_reducible first | apply below_alloc | apply pw_below_drewN | apply below_drew1 | refine below_set ?_ (IsS85.ge HI599.out) | refine below_set ?_ GE598.out) | exact HB.out)); rintro e w6 ⟨v601, v604, rfl, ho0, ho1, hi, hb, hk⟩; refine ⟨_, rfl, ?_⟩; have n0_ := Aside0.mk (KeepBut.blk hk (g' := gb598) (o := .cells #[.slice none 0 0] 26 (0, 0)) (by (with_reducible repeat (first | apply blk_drewN | apply blk_drew | apply blk_alloc)); exact BK598.out) NB598_599.out (by simp)); have n1_ := Aside0.mk (Kd.S_lower ho0 (below_size (by repeat (first | (with_reducible first | apply below_alloc | apply pw_below_drewN | apply below_drew1 | refine below_set ?_ (IsS85.ge HI599.out) | refine below_set ?_ GE598.out) | exact HB.out)))); have n2_ := Aside0.mk (Kd.R_lower ho1 (below_size (by repeat (first | (with_reducible first | apply below_alloc | apply pw_below_drewN | apply below_drew1 | refine below_set ?_ (IsS85.ge HI599.out) | refine below_set ?_ GE598.out) | exact HB.out)))); have n3_ := Aside0.mk (hb); have n4_ := Aside0.mk (hi); clear BK598; clear HB; clear HI599; have BK598 := n0_; have HO602 := n1_; have HO605 := n2_; have HB := n3_; have HI599 := n4_; clear n0_ n1_ n2_ n3_ n4_; (try clear hb); (try clear hk); (try clear hi); (try clear ho0); (try clear ho1)) | ((with_reducible refine gate_dst (N := 7) rfl ?_); refine box_event ?hg (N := 7) ?hd (cs := #[.slice none 0 0]) (t := 26) ?hr ?_; (case hd => rfl); (case hg => rfl); (case hr => first | (go_simp; done) | (go_simp; rfl)); intro gb608 hg w7 hbox hb; have n0_ := sB hb HO602; have n1_ := rB hb HO605; have n2_ := bB hb BK598; have n3_ := iB hb HI599; have n4_ := hB hb HB; have n5_ := Aside0.mk (hbox); have n6_ := gB hg HB; have n7_ := gB hg HB; have n8_ := nL hg BK598; have n9_ := nG hg BK598; have n10_ := nLI hg HI599; have n11_ := nGI hg HI599; clear HO602; clear HO605; clear BK598; clear HI599; clear HB; have HO602 := n0_; have HO605 := n1_; have BK598 := n2_; have HI599 := n3_; have HB := n4_; have BK608 := n5_; have GW608 := n6_; have GE608 := n7_; have NB598_608 := n8_; have NB608_598 := n9_; have NB599_608 := n10_; have NB608_599 := n11_; clear n0_ n1_ n2_ n3_ n4_ n5_ n6_ n7_ n8_ n9_ n10_ n11_; clear hb hbox hg; obtain ⟨Ao8, co8, eo8⟩ := Kd.S_slice HO602.out; subst eo8; have hnb9 := NB608_598.out; have hnc9 := NB598_608.out; have hnb10 := NB608_599.out; have hnc10 := NB599_608.out; have hcz11_0 : w7.cell? ⟨gb608, 0, none⟩ = some (.slice none 0 0) := (blk_cell BK608.out 0).trans rfl; have hfz11_0 := blk_frozen BK608.out 0) | ((with_reducible refine gate_callee (f := 113) rfl ?_); refine goesL_ (some 22) rfl rfl Tryd.func113 (by kernel_rfl) rfl #[.pointer (some ⟨gb599, 0, none⟩), .agg #[.slice Ao8 t600.length co8]] rfl (by (try simp only [List.map_toArray, List.map_cons, List.map_nil]); first | done | rfl | (simp only [List.length_drop, List.length_take]; rfl)) ?_; (with_reducible refine (spec_l1Cur_place3.calls k gb599 l0 t606 t607 _ _ t600 t609 t610 t611 t612 w _ ?side1 ?side2 ?side3 ?side4 A3.out).mono ?_); (case side1 => repeat (first | (with_reducible first | exact HI599.out | apply IsS85.alloc | apply IsS85.drewN | apply IsS85.drew | apply IsS85.set_1 | apply IsS85.set_2 | refine IsS85.far ?_ NB599_598.out _ | refine IsS85.far ?_ NB599_608.out _) | exact HI599.out)); (case side2 => repeat (first | (with_reducible first | apply below_alloc | apply pw_below_drewN | apply below_drew1 | refine below_set ?_ (IsS85.ge HI599.out) | refine below_set ?_ GE598.out | refine below_set ?_ GE608.out) | exact HB.out)); (case side3 => exact Kd.C_foot_own ((Kd.S_R (IsS85.apartS (show IsS85 w _ gb599 l0 t606 t607 from by repeat (first | (with_reducible first | exact HI599.out | apply IsS85.alloc | apply IsS85.drewN | apply IsS85.drew | apply IsS85.set_1 | apply IsS85.set_2 | refine IsS85.far ?_ NB599_598.out _ | refine IsS85.far ?_ NB599_608.out _) | exact HI599.out)) (by (with_reducible repeat (first | apply Kd.S_alloc | apply Kd.S_drewN | apply Kd.S_drew)); exact (Kd.S_mono (Kd.S_far (p := ⟨gb608, 0, none⟩) (Kd.S_types HO602.out BK608.out (by decide)) (fun _ hk => hk.2) (.slice Ao8 t600.length co8)) (fun _ h_ => h_.1))) (by decide)))) (fun _ h_ => h_.2)); (case side4 => exact (Kd.S_reads' HO602.out).2.1); rintro e w12 ⟨rfl, hi, hb, hk⟩; refine ⟨_, rfl, ?_⟩; have n0_ := Aside0.mk (KeepBut.blk hk (g' := gb598) (o := .cells #[.slice none 0 0] 26 (0, 0)) (by (with_reducible repeat (first | apply blk_drewN | apply blk_drew | apply blk_alloc)); refine blk_far ?_ NB598_608.out _; (with_reducible repeat (first | apply blk_drewN | apply blk_drew | apply blk_alloc)); exact BK598.out) NB598_599.out (by simp)); have n1_ := Aside0.mk (Kd.S_mono (Kd.S_keep (IsS85.apartS (show IsS85 w _ gb599 l0 t606 t607 from by repeat (first | (with_reducible first | exact HI599.out | apply IsS85.alloc | apply IsS85.drewN | apply IsS85.drew | apply IsS85.set_1 | apply IsS85.set_2 | refine IsS85.far ?_ NB599_598.out _ | refine IsS85.far ?_ NB599_608.out _) | exact HI599.out)) (by (with_reducible repeat (first | apply Kd.S_alloc | apply Kd.S_drewN | apply Kd.S_drew)); exact (Kd.S_mono (Kd.S_far (p := ⟨gb608, 0, none⟩) (Kd.S_types HO602.out BK608.out (by decide)) (fun _ hk => hk.2) (.slice Ao8 t600.length co8)) (fun _ h_ => h_.1))) (by decide)) hk (fun _ h => h.2)) (fun _ h => h.1)); have n2_ := Aside0.mk (Kd.R_mono (Kd.R_keep (IsS85.apart (show IsS85 w _ gb599 l0 t606 t607 from by repeat (first | (with_reducible first | exact HI599.out | apply IsS85.alloc | apply IsS85.drewN | apply IsS85.drew | apply IsS85.set_1 | apply IsS85.set_2 | refine IsS85.far ?_ NB599_598.out _ | refine IsS85.far ?_ NB599_608.out _) | exact HI599.out)) (by (with_reducible repeat (first | apply Kd.R_alloc | apply Kd.R_drewN | apply Kd.R_drew)); exact (Kd.R_mono (Kd.R_far (p := ⟨gb608, 0, none⟩) (Kd.R_types HO605.out BK608.out (by decide)) (fun _ hk => hk.2) (.slice Ao8 t600.length co8)) (fun _ h_ => h_.1))) (by decide)) hk (fun _ h => h.2)) (fun _ h => h.1)); have n3_ := Aside0.mk (KeepBut.blk hk (g' := gb608) (o := .cells #[.slice Ao8 t600.length co8] 26 (0, 0)) (by (with_reducible repeat (first | apply blk_drewN | apply blk_drew | apply blk_alloc)); refine blk_put (cs := #[.slice none 0 0]) ?_ 0 _ rfl; (with_reducible repeat (first | apply blk_drewN | apply blk_drew | apply blk_alloc)); exact BK608.out) NB608_599.out (by simp)); have n4_ := Aside0.mk (hb); have n5_ := Aside0.mk (hi); clear BK598; clear HO602; clear HO605; clear BK608; clear HB; clear HI599; have BK598 := n0_; have HO602 := n1_; have HO605 := n2_; have BK608 := n3_; have HB := n4_; have HI599 := n5_; clear n0_ n1_ n2_ n3_ n4_ n5_; (try clear hb); (try clear hk); (try clear hi); have hcz13_0 : w12.cell? ⟨gb608, 0, none⟩ = some (.slice Ao8 t600.length co8) := (blk_cell BK608.out 0).trans rfl; have hfz13_0 := blk_frozen BK608.out 0; have hnb14 := NB598_599.out; have hnc14 := NB599_598.out; have hcz15_0 : w12.cell? ⟨gb598, 0, none⟩ = some (.slice none 0 0) := (blk_cell BK598.out 0).trans rfl; have hfz15_0 := blk_frozen BK598.out 0))
 refine bodyPost_ret (results_list (rs := [.cell 2 26, .tmp 3, .tmp 4, .tmp 5]) rfl (by simp) (.cell gb598 26 #[.slice Ao8 t600.length co8] (0, 0) _ rfl (by (with_reducible repeat (first | apply blk_drewN | apply blk_drew | apply blk_alloc)); refine blk_put (cs := #[.slice none 0 0]) ?_ 0 _ rfl; (with_reducible repeat (first | apply blk_drewN | apply blk_drew | apply blk_alloc)); exact BK598.out) Tryd.underlying26 rfl (by kernel_rfl) (.tmp (.tmp (.tmp .nil))))) rfl ?_
 exact ⟨_, _, by first | rfl | (simp [*, errW_none, errW_some] <;> rfl), by (with_reducible repeat (first | apply Kd.S_alloc | apply Kd.S_drewN | apply Kd.S_drew)); exact Kd.S_mono (Kd.S_far (p := ⟨gb598, 0, none⟩) (Kd.S_types HO602.out BK598.out (by decide)) (fun _ hk => hk.2) (.slice Ao8 t600.length co8)) (fun _ hk => trivial), by (with_reducible repeat (first | apply Kd.R_alloc | apply Kd.R_drewN | apply Kd.R_drew)); exact Kd.R_mono (Kd.R_far (p := ⟨gb598, 0, none⟩) (Kd.R_types HO605.out BK598.out (by decide)) (fun _ hk => hk.2) (.slice Ao8 t600.length co8)) (fun _ hk => trivial), by repeat (first | (with_reducible first | apply below_alloc | apply pw_below_drewN | apply below_drew1 | refine below_set ?_ (IsS85.ge HI599.out) | refine below_set ?_ GE598.out | refine below_set ?_ GE608.out) | exact HB.out)⟩
def spec_DrawNoticedCounts.f (k : Nat) (l0 : List Int) : Option ((List (List Int)) × (List (S28)) × Int) := (spec_DrawNoticedBy.f k l0).bind fun bt614 => (some (bt614.1, bt614.2.1, bt614.2.2.1))
set_option maxHeartbeats 8000000 in
set_option maxRecDepth 100000 in
theorem spec_DrawNoticedCounts.calls (k : Nat) (A0 : Option Addr) (c0 : Nat) (l0 : List Int) (r1 : List (List Int)) (r2 : List (S28)) (r3 : Int) (w : World) (hr0 : Kd.C (Kd.int .u8) w A0 l0.length l0) (hc0 : l0.length ≤ c0) (h : spec_DrawNoticedCounts.f k l0 = some (r1, r2, r3)) :
    Calls Tryd.prog 14 #[.slice A0 l0.length c0] w fun e w' => ∃ v0_ v1_ : Value, e = .returned (.tuple #[.agg #[v0_], v1_, .int .i64 r3]) ∧ Kd.S (Kd.slice 5 (Kd.int .u8)) 22 w' w.heap.size (fun _ => True) v0_ r1 ∧ Kd.R k28 28 w' w.heap.size (fun _ => True) v1_ r2 ∧ Below w.heap.size w w' := by
 have hu26 := Tryd.underlying26
 have HR0 := am hr0
 have HC0 := am hc0
 clear hr0 hc0
 have HB := am (Below.refl w.heap.size w)
 have H : ((spec_DrawNoticedBy.f k l0).bind fun bt614 => (some (bt614.1, bt614.2.1, bt614.2.2.1))) = some (r1, r2, r3) := h
 clear h
 replace H := Option.bind_eq_some_iff.mp H
 obtain ⟨⟨t614, t617, t620, t621⟩, A20, H⟩ := H
 try dsimp only at H
 have A2 := am A20
 clear A20
 simp only [Option.some.injEq, Prod.mk.injEq] at H
 obtain ⟨rfl, rfl, rfl⟩ := H
 go_enter Tryd.func14, Tryd.ntmps14
 go_wp2_with (first | ((with_reducible refine gate_dst (N := 2) rfl ?_); refine bE 2 #[.slice none 0 0] 26 ?_; intro gb613 hg w3 hbox hb; have BK613 := am hbox; have GW613 := gB hg HB; have GE613 := gB hg HB; replace HB := hB hb HB; clear hb hbox hg) | ((with_reducible refine gate_callee (f := 71) rfl ?_); refine gL 11 Tryd.func71 #[.slice A0 l0.length c0] ?_; (with_reducible refine (spec_DrawNoticedBy.calls k _ _ l0 t614 t617 t620 t621 _ ?side1 ?side2 A2.out).mono ?_); (case side1 => exact cc (Kd.C_below HR0.out HB.out)); (case side2 => exact HC0.out); rintro e w4 ⟨v615, v618, rfl, ho0, ho1, hb⟩; refine ⟨_, rfl, ?_⟩; have HO616 := am (Kd.S_lower ho0 (below_size (bs HB))); have HO619 := am (Kd.R_lower ho1 (below_size (bs HB))); replace BK613 := bB hb BK613; replace HB := hB hb HB; (try clear hb); (try clear hk); (try clear hi); (try clear ho0); (try clear ho1)) | ((with_reducible refine gate_dst (N := 5) rfl ?_); refine bE 5 #[.slice none 0 0] 26 ?_; intro gb622 hg w5 hbox hb; replace HO616 := sB hb HO616; replace HO619 := rB hb HO619; have BK622 := am hbox; have GW622 := gB hg HB; have GE622 := gB hg HB; replace HB := hB hb HB; have NB613_622 := nL hg BK613; have NB622_613 := nG hg BK613; replace BK613 := bB hb BK613; clear hb hbox hg; obtain ⟨Ao6, co6, eo6⟩ := Kd.S_slice HO616.out; subst eo6; have hnb7 := NB622_613.out; have hnc7 := NB613_622.out; obtain ⟨_, _⟩ := z1 BK622; obtain ⟨_, _⟩ := z1 BK613))
 refine bodyPost_ret (results_ctt rfl _ _ gb613 26 #[.slice Ao6 t614.length co6] (0, 0) _ rfl (by (with_reducible repeat (first | apply blk_drewN | apply blk_drew | apply blk_alloc)); refine blk_put (cs := #[.slice none 0 0]) ?_ 0 _ rfl; (with_reducible repeat (first | apply blk_drewN | apply blk_drew | apply blk_alloc)); refine blk_far ?_ NB613_622.out _; (with_reducible repeat (first | apply blk_drewN | apply blk_drew | apply blk_alloc)); exact BK613.out) Tryd.underlying26 rfl (by kernel_rfl)) rfl ?_
 exact ⟨_, _, by first | rfl | (simp [*, errW_none, errW_some] <;> rfl), by (with_reducible repeat (first | apply Kd.S_alloc | apply Kd.S_drewN | apply Kd.S_drew)); exact Kd.S_mono (Kd.S_far (p := ⟨gb613, 0, none⟩) (Kd.S_far (p := ⟨gb622, 0, none⟩) (Kd.S_types (Kd.S_types HO616.out BK622.out (by decide)) BK613.out (by decide)) (fun _ hk => hk.1.2) (.slice Ao6 t614.length co6)) (fun _ hk => hk.2) (.slice Ao6 t614.length co6)) (fun _ hk => trivial), by (with_reducible repeat (first | apply Kd.R_alloc | apply Kd.R_drewN | apply Kd.R_drew)); exact Kd.R_mono (Kd.R_far (p := ⟨gb613, 0, none⟩) (Kd.R_far (p := ⟨gb622, 0, none⟩) (Kd.R_types (Kd.R_types HO619.out BK622.out (by decide)) BK613.out (by decide)) (fun _ hk => hk.1.2) (.slice Ao6 t614.length co6)) (fun _ hk => hk.2) (.slice Ao6 t614.length co6)) (fun _ hk => trivial), bs HB⟩
def impl_membersOf.l0 : Nat → Int → List Int → Option (List Int)
  | 0, _, _ => none
  | k + 1, x0, x3 => if x0 = 0 then (some x3) else ((bits_TrailingZeros.f (IntKind.u64.wrap (x0))).bind fun t173 => (if x3.length < 17592186044416 then (impl_membersOf.l0 k (Go.bits .and .i64 x0 (wrap64 (x0 - 1))) (x3 ++ [t173])) else (none)))
def impl_membersOf.f (k : Nat) (a0 : Int) : Option (List Int) := impl_membersOf.l0 k a0 (([] : List Int))
theorem impl_membersOf.mono_l : ∀ k, (∀ y0 y1, LeO (impl_membersOf.l0 k y0 y1) (impl_membersOf.l0 (k + 1) y0 y1))
  | 0 => fun _ _ r h => by simp [impl_membersOf.l0] at h
  | k + 1 => by
    have ih0 := impl_membersOf.mono_l k
    · intro y0 y1
      unfold impl_membersOf.l0
      repeat' first
      | (with_reducible exact ih0 _ _)
      | (with_reducible exact LeO.refl _)
      | (with_reducible exact LeO.none _)
      | (with_reducible refine LeO.ite ?_ ?_)
      | (with_reducible refine LeO.bind ?_ (fun _ => ?_))
      | exact ih0 _ _
      | exact LeO.none _
      | refine LeO.ite ?_ ?_
      | refine LeO.bind ?_ (fun _ => ?_)
theorem impl_membersOf.mono : ∀ a0 k, LeO (impl_membersOf.f k a0) (impl_membersOf.f (k + 1) a0) := by
  intro a0 k
  have ih0 := impl_membersOf.mono_l k
  unfold impl_membersOf.f
  repeat' first
      | (with_reducible exact ih0 _ _)
      | (with_reducible exact LeO.refl _)
      | (with_reducible exact LeO.none _)
      | (with_reducible refine LeO.ite ?_ ?_)
      | (with_reducible refine LeO.bind ?_ (fun _ => ?_))
      | exact ih0 _ _
      | exact LeO.none _
      | refine LeO.ite ?_ ?_
      | refine LeO.bind ?_ (fun _ => ?_)
set_option maxHeartbeats 8000000 in
set_option maxRecDepth 100000 in
theorem impl_membersOf.calls (k : Nat) (a0 : Int) (r : List Int) (w : World) (h : impl_membersOf.f k a0 = some r) (HTD : Aside0 (TabD w) := by exact ⟨TabD.below HTD.out (by repeat (first | (with_reducible first | apply below_alloc | apply pw_below_drewN | apply below_drew1 | refine below_set ?_ (Aside0.out (by assumption))) | exact HB.out))⟩) :
    Calls Tryd.prog 82 #[.int .i64 a0] w fun e w' => ∃ v0_ : Value, e = .returned (v0_) ∧ Kd.R (Kd.int .i64) 3 w' w.heap.size (fun _ => True) v0_ r ∧ Below w.heap.size w w' := by
 have HB := am (Below.refl w.heap.size w)
 have H : (impl_membersOf.l0 k a0 (([] : List Int))) = some r := h
 clear h
 obtain ⟨y170, hy170⟩ : ∃ y_ : List Int, y_ = (([] : List Int)) := ⟨_, rfl⟩
 replace H : (impl_membersOf.l0 k a0 y170) = some r := by first | (rw [hy170]; with_reducible exact H) | (have H2_ := (Option.bind_some _ _).symm.trans H; rw [hy170]; with_reducible exact H2_) | (have H2_ := (Option.bind_some _ _).symm.trans H; with_reducible exact H2_) | with_reducible exact H | (rw [hy170]; exact H) | exact H
 have Ny170 := am hy170
 clear hy170
 have H' := am H
 clear H
 go_enter Tryd.func82, Tryd.ntmps82
 go_wp2_with (first | ((with_reducible refine gate_dst (N := 4) rfl ?_); refine Kd.R_lit (Kd.int .i64) _ 3 ?hg (N := 4) ?hd (xs := ([] : List Int)) (inner := []) (ok := fun _ => True) (okp := fun _ => True) ?hr ?hp (fun _ hk => hk) trivial (Below.refl _ _) (Nat.le_refl _) (by simp) ?_; (case hd => rfl); (case hg => rfl); (case hr => first | (go_simp; done) | (go_simp; rfl)); (case hp => exact (Reps.none _ _)); intro v171 w2 ho3 hb hg_ hnew_; clear hg_ hnew_; (first | rw [← Ny170.out] at ho3 | (simp only [Int.reduceToNat] at ho3; rw [← Ny170.out] at ho3)); have HO172 := am (Kd.R_lower ho3 (below_size (bb HB))); replace HB := am (below_step (bb HB) hb); clear hb ho3))
 go_loopg [0, 3] k (fun kq v0 v3 w' => ∃ (x0_1 : Int) (x3_1 : List Int), v0 = .int .i64 x0_1 ∧ Aside0 (impl_membersOf.l0 kq x0_1 x3_1 = some r) ∧ Aside0 (kq ≤ k) ∧ Aside0 (Kd.R (Kd.int .i64) 3 w' w.heap.size (fun _ => True) v3 x3_1) ∧ Aside0 (Below w.heap.size w w'))
 case atStart => exact ⟨(a0), (y170), (by first | rfl | (simp; done) | (simp [*]; done)), H', ⟨Nat.le_refl _⟩, ⟨rr HO172⟩, ⟨bb HB⟩⟩
 case round =>
  clear H'
  try clear p2
  obtain ⟨x0_1, x3_1, rfl, HA, HK1, HO_3, HB⟩ := hrel
  cases gk with
  | zero => exact absurd HA.out (by simp [impl_membersOf.l0])
  | succ k1 =>
   have H := HA.out
   clear HA
   simp only [impl_membersOf.l0] at H
   by_cases c4 : x0_1 = 0
   ·rw [if_pos c4] at H
    have c4b0 : (x0_1 == 0) = true := beq_iff_eq.mpr c4
    have c4b1 : (x0_1 != 0) = false := bne_eq_false_iff_eq.mpr c4
    clear c4
    obtain rfl := Option.some.inj H
    go_wp2
    go_ret
    exact ⟨_, by first | rfl | (simp [*, errW_none, errW_some] <;> rfl), rr HO_3, bb HB⟩
   ·rw [if_neg c4] at H
    have c4b0 : (x0_1 == 0) = false := beq_eq_false_iff_ne.mpr c4
    have c4b1 : (x0_1 != 0) = true := bne_iff_ne.mpr c4
    replace H := Option.bind_eq_some_iff.mp H
    obtain ⟨t173, A50, H⟩ := H
    try dsimp only at H
    have A5 := am A50
    clear A50
    by_cases c6 : x3_1.length < 17592186044416
    ·rw [if_pos c6] at H
     have LMc6 := am c6
     clear c6
     obtain ⟨y174, hy174⟩ : ∃ y_ : List Int, y_ = (x3_1 ++ [t173]) := ⟨_, rfl⟩
     replace H : (impl_membersOf.l0 k1 (Go.bits .and .i64 x0_1 (wrap64 (x0_1 - 1))) y174) = some r := by first | (rw [hy174]; with_reducible exact H) | (have H2_ := (Option.bind_some _ _).symm.trans H; rw [hy174]; with_reducible exact H2_) | (have H2_ := (Option.bind_some _ _).symm.trans H; with_reducible exact H2_) | with_reducible exact H | (rw [hy174]; exact H) | exact H
     have Ny174 := am hy174
     clear hy174
     have H' := am H
     clear H
     go_wp2_with (first | ((with_reducible refine gate_callee (f := 119) rfl ?_); refine gL 14 Tryd.func119 #[.int .u64 (IntKind.u64.wrap (x0_1))] ?_; (with_reducible refine (bits_TrailingZeros.calls (IntKind.u64.wrap (x0_1)) t173 _ A5.out).mono ?_); rintro e w' ⟨rfl, ⟨nd, rfl⟩⟩; refine ⟨_, rfl, ?_⟩) | ((with_reducible refine gate_builtin (b := .append) (xs := #[.tmp 11, .tmp 15]) rfl ?_); at_builtin; refine Kd.R_append (Kd.int .i64) (w0 := w) w.heap.size rfl (.tmp 11) (.tmp 15) 39 3 (.int .i64 0) 8 rfl Tryd.underlying39 info3 rfl (by decide) (by omega) u3 x3_1 t173 [.int .i64 t173] (fun _ => True) (fun _ => False) rfl rfl ?aP (fun _ hk => hk.elim) ?aF ?aO ?aB ?aS ?aL ?_; (case aP => exact rfl); (case aB => exact (bb HB)); (case aF => exact (fun _ _ => trivial)); (case aO => exact (rr HO_3)); (case aS => exact (below_size (bb HB))); (case aL => have := LMc6.out; omega); intro v175 w7 ho hb hg hat; rw [← Ny174.out] at ho; replace HB := am hb; have HO176 := am ho; clear HO_3; clear ho hb hg hat))
     go_roundg k1
     case measure => have := HK1.out; omega
     case rel => exact ⟨(Go.bits .and .i64 x0_1 (wrap64 (x0_1 - 1))), (y174), (by first | rfl | (simp; done) | (simp [*]; done)), H', ⟨by have := HK1.out; omega⟩, ⟨rr HO176⟩, ⟨bb HB⟩⟩
    ·rw [if_neg c6] at H
     exact absurd H (by simp)
def cmp_isNaN_int.f (a0 : Int) : Option (Bool) := some (a0 != a0)
set_option maxHeartbeats 8000000 in
set_option maxRecDepth 100000 in
theorem cmp_isNaN_int.calls (a0 : Int) (r : Bool) (w : World) (h : cmp_isNaN_int.f a0 = some r) :
    Calls Tryd.prog 149 #[.int .i64 a0] w fun e w' => e = .returned (.bool r) ∧ Drawn0 w w' := by
 have H : (some (a0 != a0)) = some r := h
 clear h
 obtain rfl := Option.some.inj H
 go_enter Tryd.func149, Tryd.ntmps149
 go_wp2
 go_ret
 exact ⟨by first | rfl | (simp; done) | (simp [*]; done), by repeat (first | exact Drawn0.refl _ | apply Drawn0.step)⟩
def cmp_Compare_int.f (a0 : Int) (a1 : Int) : Option (Int) := (cmp_isNaN_int.f a0).bind fun t177 => ((cmp_isNaN_int.f a1).bind fun t178 => (if t177 = true then (if t178 = true then (some 0) else (some (-1))) else (if t178 = true then (some 1) else (if a0 < a1 then (some (-1)) else (if a0 > a1 then (some 1) else (some 0))))))
set_option maxHeartbeats 8000000 in
set_option maxRecDepth 100000 in
theorem cmp_Compare_int.calls (a0 : Int) (a1 : Int) (r : Int) (w : World) (h : cmp_Compare_int.f a0 a1 = some r) :
    Calls Tryd.prog 120 #[.int .i64 a0, .int .i64 a1] w fun e w' => e = .returned (.int .i64 r) ∧ Drawn0 w w' := by
 have H : ((cmp_isNaN_int.f a0).bind fun t177 => ((cmp_isNaN_int.f a1).bind fun t178 => (if t177 = true then (if t178 = true then (some 0) else (some (-1))) else (if t178 = true then (some 1) else (if a0 < a1 then (some (-1)) else (if a0 > a1 then (some 1) else (some 0))))))) = some r := h
 clear h
 replace H := Option.bind_eq_some_iff.mp H
 obtain ⟨t177, A30, H⟩ := H
 try dsimp only at H
 have A3 := am A30
 clear A30
 replace H := Option.bind_eq_some_iff.mp H
 obtain ⟨t178, A40, H⟩ := H
 try dsimp only at H
 have A4 := am A40
 clear A40
 by_cases c5 : t177 = true
 ·subst c5
  have H1 : (if t178 = true then (some 0) else (some (-1))) = some r := by rw [if_pos rfl] at H; exact H
  clear H
  have H := H1
  clear H1
  by_cases c6 : t178 = true
  ·subst c6
   have H1 : (some 0) = some r := by rw [if_pos rfl] at H; exact H
   clear H
   have H := H1
   clear H1
   obtain rfl := Option.some.inj H
   go_enter Tryd.func120, Tryd.ntmps120
   go_wp2_with (first | ((with_reducible refine gate_callee (f := 149) rfl ?_); refine gL 8 Tryd.func149 #[.int .i64 a0] ?_; (with_reducible refine (cmp_isNaN_int.calls a0 true _ A3.out).mono ?_); rintro e w' ⟨rfl, ⟨nd, rfl⟩⟩; refine ⟨_, rfl, ?_⟩) | ((with_reducible refine gate_callee (f := 149) rfl ?_); refine gL 10 Tryd.func149 #[.int .i64 a1] ?_; (with_reducible refine (cmp_isNaN_int.calls a1 true _ A4.out).mono ?_); rintro e w' ⟨rfl, ⟨nd, rfl⟩⟩; refine ⟨_, rfl, ?_⟩))
   go_ret
   exact ⟨by first | rfl | (simp; done) | (simp [*]; done), by repeat (first | exact Drawn0.refl _ | apply Drawn0.step)⟩
  ·replace c6 := Bool.eq_false_iff.mpr c6
   subst c6
   have H1 : (some (-1)) = some r := by rw [if_neg (show ¬ (false = true) by decide)] at H; exact H
   clear H
   have H := H1
   clear H1
   obtain rfl := Option.some.inj H
   go_enter Tryd.func120, Tryd.ntmps120
   go_wp2_with (first | ((with_reducible refine gate_callee (f := 149) rfl ?_); refine gL 8 Tryd.func149 #[.int .i64 a0] ?_; (with_reducible refine (cmp_isNaN_int.calls a0 true _ A3.out).mono ?_); rintro e w' ⟨rfl, ⟨nd, rfl⟩⟩; refine ⟨_, rfl, ?_⟩) | ((with_reducible refine gate_callee (f := 149) rfl ?_); refine gL 10 Tryd.func149 #[.int .i64 a1] ?_; (with_reducible refine (cmp_isNaN_int.calls a1 false _ A4.out).mono ?_); rintro e w' ⟨rfl, ⟨nd, rfl⟩⟩; refine ⟨_, rfl, ?_⟩))
   go_ret
   exact ⟨by first | rfl | (simp; done) | (simp [*]; done), by repeat (first | exact Drawn0.refl _ | apply Drawn0.step)⟩
 ·replace c5 := Bool.eq_false_iff.mpr c5
  subst c5
  have H1 : (if t178 = true then (some 1) else (if a0 < a1 then (some (-1)) else (if a0 > a1 then (some 1) else (some 0)))) = some r := by rw [if_neg (show ¬ (false = true) by decide)] at H; exact H
  clear H
  have H := H1
  clear H1
  by_cases c7 : t178 = true
  ·subst c7
   have H1 : (some 1) = some r := by rw [if_pos rfl] at H; exact H
   clear H
   have H := H1
   clear H1
   obtain rfl := Option.some.inj H
   go_enter Tryd.func120, Tryd.ntmps120
   go_wp2_with (first | ((with_reducible refine gate_callee (f := 149) rfl ?_); refine gL 8 Tryd.func149 #[.int .i64 a0] ?_; (with_reducible refine (cmp_isNaN_int.calls a0 false _ A3.out).mono ?_); rintro e w' ⟨rfl, ⟨nd, rfl⟩⟩; refine ⟨_, rfl, ?_⟩) | ((with_reducible refine gate_callee (f := 149) rfl ?_); refine gL 10 Tryd.func149 #[.int .i64 a1] ?_; (with_reducible refine (cmp_isNaN_int.calls a1 true _ A4.out).mono ?_); rintro e w' ⟨rfl, ⟨nd, rfl⟩⟩; refine ⟨_, rfl, ?_⟩))
   go_ret
   exact ⟨by first | rfl | (simp; done) | (simp [*]; done), by repeat (first | exact Drawn0.refl _ | apply Drawn0.step)⟩
  ·replace c7 := Bool.eq_false_iff.mpr c7
   subst c7
   have H1 : (if a0 < a1 then (some (-1)) else (if a0 > a1 then (some 1) else (some 0))) = some r := by rw [if_neg (show ¬ (false = true) by decide)] at H; exact H
   clear H
   have H := H1
   clear H1
   by_cases c8 : a0 < a1
   ·rw [if_pos c8] at H
    have c8b0 : decide (a0 < a1) = true := decide_eq_true c8
    clear c8
    obtain rfl := Option.some.inj H
    go_enter Tryd.func120, Tryd.ntmps120
    go_wp2_with (first | ((with_reducible refine gate_callee (f := 149) rfl ?_); refine gL 8 Tryd.func149 #[.int .i64 a0] ?_; (with_reducible refine (cmp_isNaN_int.calls a0 false _ A3.out).mono ?_); rintro e w' ⟨rfl, ⟨nd, rfl⟩⟩; refine ⟨_, rfl, ?_⟩) | ((with_reducible refine gate_callee (f := 149) rfl ?_); refine gL 10 Tryd.func149 #[.int .i64 a1] ?_; (with_reducible refine (cmp_isNaN_int.calls a1 false _ A4.out).mono ?_); rintro e w' ⟨rfl, ⟨nd, rfl⟩⟩; refine ⟨_, rfl, ?_⟩))
    go_ret
    exact ⟨by first | rfl | (simp; done) | (simp [*]; done), by repeat (first | exact Drawn0.refl _ | apply Drawn0.step)⟩
   ·rw [if_neg c8] at H
    have c8b0 : decide (a0 < a1) = false := decide_eq_false c8
    clear c8
    by_cases c9 : a0 > a1
    ·rw [if_pos c9] at H
     have c9b0 : decide (a1 < a0) = true := decide_eq_true c9
     clear c9
     obtain rfl := Option.some.inj H
     go_enter Tryd.func120, Tryd.ntmps120
     go_wp2_with (first | ((with_reducible refine gate_callee (f := 149) rfl ?_); refine gL 8 Tryd.func149 #[.int .i64 a0] ?_; (with_reducible refine (cmp_isNaN_int.calls a0 false _ A3.out).mono ?_); rintro e w' ⟨rfl, ⟨nd, rfl⟩⟩; refine ⟨_, rfl, ?_⟩) | ((with_reducible refine gate_callee (f := 149) rfl ?_); refine gL 10 Tryd.func149 #[.int .i64 a1] ?_; (with_reducible refine (cmp_isNaN_int.calls a1 false _ A4.out).mono ?_); rintro e w' ⟨rfl, ⟨nd, rfl⟩⟩; refine ⟨_, rfl, ?_⟩))
     go_ret
     exact ⟨by first | rfl | (simp; done) | (simp [*]; done), by repeat (first | exact Drawn0.refl _ | apply Drawn0.step)⟩
    ·rw [if_neg c9] at H
     have c9b0 : decide (a1 < a0) = false := decide_eq_false c9
     clear c9
     obtain rfl := Option.some.inj H
     go_enter Tryd.func120, Tryd.ntmps120
     go_wp2_with (first | ((with_reducible refine gate_callee (f := 149) rfl ?_); refine gL 8 Tryd.func149 #[.int .i64 a0] ?_; (with_reducible refine (cmp_isNaN_int.calls a0 false _ A3.out).mono ?_); rintro e w' ⟨rfl, ⟨nd, rfl⟩⟩; refine ⟨_, rfl, ?_⟩) | ((with_reducible refine gate_callee (f := 149) rfl ?_); refine gL 10 Tryd.func149 #[.int .i64 a1] ?_; (with_reducible refine (cmp_isNaN_int.calls a1 false _ A4.out).mono ?_); rintro e w' ⟨rfl, ⟨nd, rfl⟩⟩; refine ⟨_, rfl, ?_⟩))
     go_ret
     exact ⟨by first | rfl | (simp; done) | (simp [*]; done), by repeat (first | exact Drawn0.refl _ | apply Drawn0.step)⟩
def slices_Compare_int_int.l0 : Nat → List Int → List Int → List Int → Int → Int → Option (Int)
  | 0, _, _, _, _, _ => none
  | k + 1, x0, x1, x9, x10, x11 => if x11 < x10 then (if 0 ≤ x11 then (if x11 < (x9.length : Int) then (if x11 ≥ (x1.length : Int) then (some 1) else (if x11 < (x1.length : Int) then ((cmp_Compare_int.f (rd x9 x11) (rd x1 x11)).bind fun t181 => (if t181 = 0 then (slices_Compare_int_int.l0 k x0 x1 x9 x10 (wrap64 (x11 + 1))) else (some t181))) else (none))) else (none)) else (none)) else (if (x0.length : Int) < (x1.length : Int) then (some (-1)) else (some 0))
def slices_Compare_int_int.f (k : Nat) (l0 : List Int) (l1 : List Int) : Option (Int) := slices_Compare_int_int.l0 k l0 l1 l0 (l0.length : Int) 0
set_option maxHeartbeats 8000000 in
set_option maxRecDepth 100000 in
theorem slices_Compare_int_int.calls (k : Nat) (A0 : Option Addr) (c0 : Nat) (l0 : List Int) (A1 : Option Addr) (c1 : Nat) (l1 : List Int) (r : Int) (w : World) (hr0 : Kd.C (Kd.int .i64) w A0 l0.length l0) (hc0 : l0.length ≤ c0) (hr1 : Kd.C (Kd.int .i64) w A1 l1.length l1) (hc1 : l1.length ≤ c1) (h : slices_Compare_int_int.f k l0 l1 = some r) :
    Calls Tryd.prog 83 #[.slice A0 l0.length c0, .slice A1 l1.length c1] w fun e w' => e = .returned (.int .i64 r) ∧ Drawn0 w w' := by
 have HR0 := am hr0
 have HC0 := am hc0
 clear hr0 hc0
 have HR1 := am hr1
 have HC1 := am hc1
 clear hr1 hc1
 have H : (slices_Compare_int_int.l0 k l0 l1 l0 (l0.length : Int) 0) = some r := h
 clear h
 have H' := am H
 clear H
 go_enter Tryd.func83, Tryd.ntmps83
 go_wp2
 go_loopg [11] k (fun kq v11 w' => ∃ (x11_1 : Int), v11 = .int .i64 x11_1 ∧ Aside0 (slices_Compare_int_int.l0 kq l0 l1 l0 (l0.length : Int) x11_1 = some r) ∧ Aside0 (kq ≤ k) ∧ Drawn0 w w')
 case atStart => exact ⟨(0), (by first | rfl | (simp; done) | (simp [*]; done)), H', ⟨Nat.le_refl _⟩, by repeat (first | exact Drawn0.refl _ | apply Drawn0.step)⟩
 case round =>
  clear H'
  try clear c1
  try clear p2
  obtain ⟨x11_1, rfl, HA, HK1, ⟨m1, rfl⟩⟩ := hrel
  cases gk with
  | zero => exact absurd HA.out (by simp [slices_Compare_int_int.l0])
  | succ k1 =>
   have H := HA.out
   clear HA
   simp only [slices_Compare_int_int.l0] at H
   by_cases c3 : x11_1 < (l0.length : Int)
   ·rw [if_pos c3] at H
    have c3b0 : decide (x11_1 < (l0.length : Int)) = true := decide_eq_true c3
    clear c3
    by_cases c4 : 0 ≤ x11_1
    ·rw [if_pos c4] at H
     have c4b0 : decide (0 ≤ x11_1) = true := decide_eq_true c4
     clear c4
     by_cases c5 : x11_1 < (l0.length : Int)
     ·rw [if_pos c5] at H
      have c5b0 : decide (x11_1 < (l0.length : Int)) = true := decide_eq_true c5
      clear c5
      by_cases c6 : x11_1 ≥ (l1.length : Int)
      ·rw [if_pos c6] at H
       have c6b0 : decide ((l1.length : Int) ≤ x11_1) = true := decide_eq_true c6
       clear c6
       obtain rfl := Option.some.inj H
       have p179 : 0 ≤ (x11_1 : Int) := of_decide_eq_true (by assumption)
       have q179 : x11_1 < (l0.length : Int) := of_decide_eq_true (by assumption)
       obtain ⟨ad179, e179, hx179_0⟩ := Kd.at_int HR0.out x11_1 p179 q179
       cases e179
       replace p179 := eq_true p179
       replace q179 := eq_true q179
       go_wp2
       go_ret
       exact ⟨by first | rfl | (simp; done) | (simp [*]; done), by repeat (first | exact Drawn0.refl _ | apply Drawn0.step)⟩
      ·rw [if_neg c6] at H
       have c6b0 : decide ((l1.length : Int) ≤ x11_1) = false := decide_eq_false c6
       clear c6
       by_cases c7 : x11_1 < (l1.length : Int)
       ·rw [if_pos c7] at H
        have c7b0 : decide (x11_1 < (l1.length : Int)) = true := decide_eq_true c7
        clear c7
        replace H := Option.bind_eq_some_iff.mp H
        obtain ⟨t181, A80, H⟩ := H
        try dsimp only at H
        have A8 := am A80
        clear A80
        by_cases c9 : t181 = 0
        ·rw [if_pos c9] at H
         have c9b0 : (t181 == 0) = true := beq_iff_eq.mpr c9
         have c9b1 : (t181 != 0) = false := bne_eq_false_iff_eq.mpr c9
         clear c9
         have H' := am H
         clear H
         have p179 : 0 ≤ (x11_1 : Int) := of_decide_eq_true (by assumption)
         have q179 : x11_1 < (l0.length : Int) := of_decide_eq_true (by assumption)
         obtain ⟨ad179, e179, hx179_0⟩ := Kd.at_int HR0.out x11_1 p179 q179
         cases e179
         replace p179 := eq_true p179
         replace q179 := eq_true q179
         have p180 : 0 ≤ (x11_1 : Int) := of_decide_eq_true (by assumption)
         have q180 : x11_1 < (l1.length : Int) := of_decide_eq_true (by assumption)
         obtain ⟨ad180, e180, hx180_0⟩ := Kd.at_int HR1.out x11_1 p180 q180
         cases e180
         replace p180 := eq_true p180
         replace q180 := eq_true q180
         go_wp2_with (first | ((with_reducible refine gate_callee (f := 120) rfl ?_); refine gL 26 Tryd.func120 #[.int .i64 (rd l0 x11_1), .int .i64 (rd l1 x11_1)] ?_; (with_reducible refine (cmp_Compare_int.calls (rd l0 x11_1) (rd l1 x11_1) t181 _ A8.out).mono ?_); rintro e w' ⟨rfl, ⟨nd, rfl⟩⟩; refine ⟨_, rfl, ?_⟩))
         go_roundg k1
         case measure => have := HK1.out; omega
         case rel => exact ⟨(wrap64 (x11_1 + 1)), (by first | rfl | (simp; done) | (simp [*]; done)), H', ⟨by have := HK1.out; omega⟩, by repeat (first | exact Drawn0.refl _ | apply Drawn0.step)⟩
        ·rw [if_neg c9] at H
         have c9b0 : (t181 == 0) = false := beq_eq_false_iff_ne.mpr c9
         have c9b1 : (t181 != 0) = true := bne_iff_ne.mpr c9
         obtain rfl := Option.some.inj H
         have p179 : 0 ≤ (x11_1 : Int) := of_decide_eq_true (by assumption)
         have q179 : x11_1 < (l0.length : Int) := of_decide_eq_true (by assumption)
         obtain ⟨ad179, e179, hx179_0⟩ := Kd.at_int HR0.out x11_1 p179 q179
         cases e179
         replace p179 := eq_true p179
         replace q179 := eq_true q179
         have p180 : 0 ≤ (x11_1 : Int) := of_decide_eq_true (by assumption)
         have q180 : x11_1 < (l1.length : Int) := of_decide_eq_true (by assumption)
         obtain ⟨ad180, e180, hx180_0⟩ := Kd.at_int HR1.out x11_1 p180 q180
         cases e180
         replace p180 := eq_true p180
         replace q180 := eq_true q180
         go_wp2_with (first | ((with_reducible refine gate_callee (f := 120) rfl ?_); refine gL 26 Tryd.func120 #[.int .i64 (rd l0 x11_1), .int .i64 (rd l1 x11_1)] ?_; (with_reducible refine (cmp_Compare_int.calls (rd l0 x11_1) (rd l1 x11_1) t181 _ A8.out).mono ?_); rintro e w' ⟨rfl, ⟨nd, rfl⟩⟩; refine ⟨_, rfl, ?_⟩))
         go_ret
         exact ⟨by first | rfl | (simp; done) | (simp [*]; done), by repeat (first | exact Drawn0.refl _ | apply Drawn0.step)⟩
       ·rw [if_neg c7] at H
        exact absurd H (by simp)
     ·rw [if_neg c5] at H
      exact absurd H (by simp)
    ·rw [if_neg c4] at H
     exact absurd H (by simp)
   ·rw [if_neg c3] at H
    have c3b0 : decide (x11_1 < (l0.length : Int)) = false := decide_eq_false c3
    clear c3
    by_cases c10 : (l0.length : Int) < (l1.length : Int)
    ·rw [if_pos c10] at H
     have c10b0 : decide ((l0.length : Int) < (l1.length : Int)) = true := decide_eq_true c10
     have c10b1 : decide (l0.length < l1.length) = true := decide_eq_true (Int.ofNat_lt.mp c10)
     clear c10
     obtain rfl := Option.some.inj H
     go_wp2
     go_ret
     exact ⟨by first | rfl | (simp; done) | (simp [*]; done), by repeat (first | exact Drawn0.refl _ | apply Drawn0.step)⟩
    ·rw [if_neg c10] at H
     have c10b0 : decide ((l0.length : Int) < (l1.length : Int)) = false := decide_eq_false c10
     have c10b1 : decide (l0.length < l1.length) = false := decide_eq_false (fun h => c10 (Int.ofNat_lt.mpr h))
     clear c10
     obtain rfl := Option.some.inj H
     go_wp2
     go_ret
     exact ⟨by first | rfl | (simp; done) | (simp [*]; done), by repeat (first | exact Drawn0.refl _ | apply Drawn0.step)⟩
def spec_l3Sees.f (a0_0 : Int) (a0_1 : Int) (a0_2 : Int) (a0_3 : Int) (a1 : Int) (a2 : Int) : Option (Bool) := if a0_0 = a1 then ((spec_l1In.f a2 a0_1 (wrap64 ((wrap64 (a0_1 + a0_2)) - 1))).bind fun t644 => (some t644)) else (some false)
set_option maxHeartbeats 8000000 in
set_option maxRecDepth 100000 in
theorem spec_l3Sees.calls (a0_0 : Int) (a0_1 : Int) (a0_2 : Int) (a0_3 : Int) (a1 : Int) (a2 : Int) (r : Bool) (w : World) (h : spec_l3Sees.f a0_0 a0_1 a0_2 a0_3 a1 a2 = some r) :
    Calls Tryd.prog 135 #[.agg #[.int .i64 a0_0, .int .i64 a0_1, .int .i64 a0_2, .int .i64 a0_3], .int .i64 a1, .int .i64 a2] w fun e w' => e = .returned (.bool r) ∧ Below w.heap.size w w' := by
 have hu28 := Tryd.underlying28
 have HB := am (Below.refl w.heap.size w)
 have H : (if a0_0 = a1 then ((spec_l1In.f a2 a0_1 (wrap64 ((wrap64 (a0_1 + a0_2)) - 1))).bind fun t644 => (some t644)) else (some false)) = some r := h
 clear h
 by_cases c4 : a0_0 = a1
 ·rw [if_pos c4] at H
  have c4b0 : (a0_0 == a1) = true := beq_iff_eq.mpr c4
  have c4b1 : (a0_0 != a1) = false := bne_eq_false_iff_eq.mpr c4
  clear c4
  replace H := Option.bind_eq_some_iff.mp H
  obtain ⟨t644, A50, H⟩ := H
  try dsimp only at H
  have A5 := am A50
  clear A50
  obtain rfl := Option.some.inj H
  go_enter Tryd.func135, Tryd.ntmps135
  go_wp2_with (first | ((with_reducible refine gate_dst (N := 3) rfl ?_); refine bE 3 #[.int .i64 a0_0, .int .i64 a0_1, .int .i64 a0_2, .int .i64 a0_3] 28 ?_; intro gb643 hg w6 hbox hb; have BK643 := am hbox; have GW643 := am ((by rw [hg]; exact (below_size (bb HB)) : w.heap.size ≤ gb643)); have GE643 := am ((by rw [hg]; exact (below_size (bb HB)) : w.heap.size ≤ gb643)); replace HB := am (below_step (bb HB) hb); clear hb hbox hg; obtain ⟨_, _, _, _, _, _, _, _⟩ := z4 BK643) | (go_at_call 78; (with_reducible refine (spec_l1In.calls a2 a0_1 (wrap64 ((wrap64 (a0_1 + a0_2)) - 1)) t644 _ A5.out).mono ?_); rintro e w' ⟨rfl, ⟨nd, rfl⟩⟩))
  go_ret
  exact ⟨by first | rfl | (simp [*, errW_none, errW_some] <;> rfl), bs HB⟩
 ·rw [if_neg c4] at H
  have c4b0 : (a0_0 == a1) = false := beq_eq_false_iff_ne.mpr c4
  have c4b1 : (a0_0 != a1) = true := bne_iff_ne.mpr c4
  obtain rfl := Option.some.inj H
  go_enter Tryd.func135, Tryd.ntmps135
  go_wp2_with (first | ((with_reducible refine gate_dst (N := 3) rfl ?_); refine bE 3 #[.int .i64 a0_0, .int .i64 a0_1, .int .i64 a0_2, .int .i64 a0_3] 28 ?_; intro gb643 hg w8 hbox hb; have BK643 := am hbox; have GW643 := am ((by rw [hg]; exact (below_size (bb HB)) : w.heap.size ≤ gb643)); have GE643 := am ((by rw [hg]; exact (below_size (bb HB)) : w.heap.size ≤ gb643)); replace HB := am (below_step (bb HB) hb); clear hb hbox hg; obtain ⟨_, _, _, _, _, _, _, _⟩ := z4 BK643))
  go_ret
  exact ⟨by first | rfl | (simp [*, errW_none, errW_some] <;> rfl), bs HB⟩
def spec_l3Noticed.l0 : Nat → List (S28) → Int → Int → List Int → Int → Option (List Int)
  | 0, _, _, _, _, _ => none
  | k + 1, x0, x1, x2, x7, x8 => if x8 < (x0.length : Int) then (if 0 ≤ x8 then ((spec_l3Sees.f ((rd_T28 x0 x8).f0) ((rd_T28 x0 x8).f1) ((rd_T28 x0 x8).f2) ((rd_T28 x0 x8).f3) x1 x2).bind fun t649 => (if t649 = true then (if x7.length < 17592186044416 then (spec_l3Noticed.l0 k x0 x1 x2 (x7 ++ [x8]) (wrap64 (x8 + 1))) else (none)) else (spec_l3Noticed.l0 k x0 x1 x2 x7 (wrap64 (x8 + 1))))) else (none)) else (some x7)
def spec_l3Noticed.f (k : Nat) (l0 : List (S28)) (a1 : Int) (a2 : Int) : Option (List Int) := spec_l3Noticed.l0 k l0 a1 a2 (([] : List Int)) 0
set_option maxHeartbeats 8000000 in
set_option maxRecDepth 100000 in
theorem spec_l3Noticed.calls (k : Nat) (A0 : Option Addr) (c0 : Nat) (l0 : List (S28)) (a1 : Int) (a2 : Int) (r : List Int) (w : World) (hr0 : Kd.C k28 w A0 l0.length l0) (hc0 : l0.length ≤ c0) (h : spec_l3Noticed.f k l0 a1 a2 = some r) :
    Calls Tryd.prog 114 #[.slice A0 l0.length c0, .int .i64 a1, .int .i64 a2] w fun e w' => ∃ v0_ : Value, e = .returned (v0_) ∧ Kd.R (Kd.int .i64) 3 w' w.heap.size (fun _ => True) v0_ r ∧ Below w.heap.size w w' := by
 have hu28 := Tryd.underlying28
 have HR0 := am hr0
 have HC0 := am hc0
 clear hr0 hc0
 have HB := am (Below.refl w.heap.size w)
 have H : (spec_l3Noticed.l0 k l0 a1 a2 (([] : List Int)) 0) = some r := h
 clear h
 obtain ⟨y645, hy645⟩ : ∃ y_ : List Int, y_ = (([] : List Int)) := ⟨_, rfl⟩
 replace H : (spec_l3Noticed.l0 k l0 a1 a2 y645 0) = some r := by first | (rw [hy645]; with_reducible exact H) | (have H2_ := (Option.bind_some _ _).symm.trans H; rw [hy645]; with_reducible exact H2_) | (have H2_ := (Option.bind_some _ _).symm.trans H; with_reducible exact H2_) | with_reducible exact H | (rw [hy645]; exact H) | exact H
 have Ny645 := am hy645
 clear hy645
 have H' := am H
 clear H
 go_enter Tryd.func114, Tryd.ntmps114
 go_wp2_with (first | ((with_reducible refine gate_dst (N := 9) rfl ?_); refine Kd.R_lit (Kd.int .i64) _ 3 ?hg (N := 9) ?hd (xs := ([] : List Int)) (inner := []) (ok := fun _ => True) (okp := fun _ => True) ?hr ?hp (fun _ hk => hk) trivial (Below.refl _ _) (Nat.le_refl _) (by simp) ?_; (case hd => rfl); (case hg => rfl); (case hr => first | (go_simp; done) | (go_simp; rfl)); (case hp => exact (Reps.none _ _)); intro v646 w4 ho5 hb hg_ hnew_; clear hg_ hnew_; (first | rw [← Ny645.out] at ho5 | (simp only [Int.reduceToNat] at ho5; rw [← Ny645.out] at ho5)); have HO647 := am (Kd.R_lower ho5 (below_size (bb HB))); replace HB := am (below_step (bb HB) hb); clear hb ho5))
 go_loopg [7, 8] k (fun kq v7 v8 w' => ∃ (x7_1 : List Int) (x8_1 : Int), v8 = .int .i64 x8_1 ∧ Aside0 (spec_l3Noticed.l0 kq l0 a1 a2 x7_1 x8_1 = some r) ∧ Aside0 (kq ≤ k) ∧ Aside0 (Kd.R (Kd.int .i64) 3 w' w.heap.size (fun _ => True) v7 x7_1) ∧ Aside0 (Below w.heap.size w w'))
 case atStart => exact ⟨(y645), (0), (by first | rfl | (simp; done) | (simp [*]; done)), H', ⟨Nat.le_refl _⟩, ⟨rr HO647⟩, ⟨bb HB⟩⟩
 case round =>
  clear H'
  try clear c1
  try clear p2
  obtain ⟨x7_1, x8_1, rfl, HA, HK1, HO_7, HB⟩ := hrel
  cases gk with
  | zero => exact absurd HA.out (by simp [spec_l3Noticed.l0])
  | succ k1 =>
   have H := HA.out
   clear HA
   simp only [spec_l3Noticed.l0] at H
   by_cases c6 : x8_1 < (l0.length : Int)
   ·rw [if_pos c6] at H
    have c6b0 : decide (x8_1 < (l0.length : Int)) = true := decide_eq_true c6
    clear c6
    by_cases c7 : 0 ≤ x8_1
    ·rw [if_pos c7] at H
     have c7b0 : decide (0 ≤ x8_1) = true := decide_eq_true c7
     clear c7
     replace H := Option.bind_eq_some_iff.mp H
     obtain ⟨t649, A80, H⟩ := H
     try dsimp only at H
     have A8 := am A80
     clear A80
     by_cases c9 : t649 = true
     ·subst c9
      have H1 : (if x7_1.length < 17592186044416 then (spec_l3Noticed.l0 k1 l0 a1 a2 (x7_1 ++ [x8_1]) (wrap64 (x8_1 + 1))) else (none)) = some r := by rw [if_pos rfl] at H; exact H
      clear H
      have H := H1
      clear H1
      by_cases c10 : x7_1.length < 17592186044416
      ·rw [if_pos c10] at H
       have LMc10 := am c10
       clear c10
       obtain ⟨y650, hy650⟩ : ∃ y_ : List Int, y_ = (x7_1 ++ [x8_1]) := ⟨_, rfl⟩
       replace H : (spec_l3Noticed.l0 k1 l0 a1 a2 y650 (wrap64 (x8_1 + 1))) = some r := by first | (rw [hy650]; with_reducible exact H) | (have H2_ := (Option.bind_some _ _).symm.trans H; rw [hy650]; with_reducible exact H2_) | (have H2_ := (Option.bind_some _ _).symm.trans H; with_reducible exact H2_) | with_reducible exact H | (rw [hy650]; exact H) | exact H
       have Ny650 := am hy650
       clear hy650
       have H' := am H
       clear H
       have p648 : 0 ≤ (x8_1 : Int) := of_decide_eq_true (by assumption)
       have q648 : x8_1 < (l0.length : Int) := of_decide_eq_true (by assumption)
       obtain ⟨ad648, e648, hx648_0, hx648_1, hx648_2, hx648_3⟩ := at_T28 HR0.out x8_1 p648 q648
       cases e648
       try replace hx648_0 := (HB.out.cell (World.block_lt_of_cell? w _ hx648_0)).trans hx648_0
       try replace hx648_1 := (HB.out.cell (World.block_lt_of_cell? w _ hx648_1)).trans hx648_1
       try replace hx648_2 := (HB.out.cell (World.block_lt_of_cell? w _ hx648_2)).trans hx648_2
       try replace hx648_3 := (HB.out.cell (World.block_lt_of_cell? w _ hx648_3)).trans hx648_3
       replace p648 := eq_true p648
       replace q648 := eq_true q648
       go_wp2_with (first | ((with_reducible refine gate_callee (f := 135) rfl ?_); refine gL 22 Tryd.func135 #[.agg #[.int .i64 ((rd_T28 l0 x8_1).f0), .int .i64 ((rd_T28 l0 x8_1).f1), .int .i64 ((rd_T28 l0 x8_1).f2), .int .i64 ((rd_T28 l0 x8_1).f3)], .int .i64 a1, .int .i64 a2] ?_; (with_reducible refine (spec_l3Sees.calls ((rd_T28 l0 x8_1).f0) ((rd_T28 l0 x8_1).f1) ((rd_T28 l0 x8_1).f2) ((rd_T28 l0 x8_1).f3) a1 a2 true _ A8.out).mono ?_); rintro e w11 ⟨rfl, hb⟩; refine ⟨_, rfl, ?_⟩; replace HO_7 := am (Kd.R_below (rr HO_7) hb); replace HB := am (below_step (bb HB) hb); (try clear hb); (try clear hk); (try clear hi)) | ((with_reducible refine gate_builtin (b := .append) (xs := #[.tmp 23, .tmp 25]) rfl ?_); at_builtin; refine Kd.R_append (Kd.int .i64) (w0 := w) w.heap.size rfl (.tmp 23) (.tmp 25) 39 3 (.int .i64 0) 8 rfl Tryd.underlying39 info3 rfl (by decide) (by omega) u7 x7_1 x8_1 [.int .i64 x8_1] (fun _ => True) (fun _ => False) rfl rfl ?aP (fun _ hk => hk.elim) ?aF ?aO ?aB ?aS ?aL ?_; (case aP => exact rfl); (case aB => exact (bb HB)); (case aF => exact (fun _ _ => trivial)); (case aO => exact (rr HO_7)); (case aS => exact (below_size (bb HB))); (case aL => have := LMc10.out; omega); intro v651 w12 ho hb hg hat; rw [← Ny650.out] at ho; replace HB := am hb; have HO652 := am ho; clear HO_7; clear ho hb hg hat))
       go_roundg k1
       case measure => have := HK1.out; omega
       case rel => exact ⟨(y650), (wrap64 (x8_1 + 1)), (by first | rfl | (simp; done) | (simp [*]; done)), H', ⟨by have := HK1.out; omega⟩, ⟨rr HO652⟩, ⟨bb HB⟩⟩
      ·rw [if_neg c10] at H
       exact absurd H (by simp)
     ·replace c9 := Bool.eq_false_iff.mpr c9
      subst c9
      have H1 : (spec_l3Noticed.l0 k1 l0 a1 a2 x7_1 (wrap64 (x8_1 + 1))) = some r := by rw [if_neg (show ¬ (false = true) by decide)] at H; exact H
      clear H
      have H := H1
      clear H1
      have H' := am H
      clear H
      have p648 : 0 ≤ (x8_1 : Int) := of_decide_eq_true (by assumption)
      have q648 : x8_1 < (l0.length : Int) := of_decide_eq_true (by assumption)
      obtain ⟨ad648, e648, hx648_0, hx648_1, hx648_2, hx648_3⟩ := at_T28 HR0.out x8_1 p648 q648
      cases e648
      try replace hx648_0 := (HB.out.cell (World.block_lt_of_cell? w _ hx648_0)).trans hx648_0
      try replace hx648_1 := (HB.out.cell (World.block_lt_of_cell? w _ hx648_1)).trans hx648_1
      try replace hx648_2 := (HB.out.cell (World.block_lt_of_cell? w _ hx648_2)).trans hx648_2
      try replace hx648_3 := (HB.out.cell (World.block_lt_of_cell? w _ hx648_3)).trans hx648_3
      replace p648 := eq_true p648
      replace q648 := eq_true q648
      go_wp2_with (first | ((with_reducible refine gate_callee (f := 135) rfl ?_); refine gL 22 Tryd.func135 #[.agg #[.int .i64 ((rd_T28 l0 x8_1).f0), .int .i64 ((rd_T28 l0 x8_1).f1), .int .i64 ((rd_T28 l0 x8_1).f2), .int .i64 ((rd_T28 l0 x8_1).f3)], .int .i64 a1, .int .i64 a2] ?_; (with_reducible refine (spec_l3Sees.calls ((rd_T28 l0 x8_1).f0) ((rd_T28 l0 x8_1).f1) ((rd_T28 l0 x8_1).f2) ((rd_T28 l0 x8_1).f3) a1 a2 false _ A8.out).mono ?_); rintro e w13 ⟨rfl, hb⟩; refine ⟨_, rfl, ?_⟩; replace HO_7 := am (Kd.R_below (rr HO_7) hb); replace HB := am (below_step (bb HB) hb); (try clear hb); (try clear hk); (try clear hi)))
      go_roundg k1
      case measure => have := HK1.out; omega
      case rel => exact ⟨(x7_1), (wrap64 (x8_1 + 1)), (by first | rfl | (simp; done) | (simp [*]; done)), H', ⟨by have := HK1.out; omega⟩, ⟨rr HO_7⟩, ⟨bb HB⟩⟩
    ·rw [if_neg c7] at H
     exact absurd H (by simp)
   ·rw [if_neg c6] at H
    have c6b0 : decide (x8_1 < (l0.length : Int)) = false := decide_eq_false c6
    clear c6
    obtain rfl := Option.some.inj H
    go_wp2
    go_ret
    exact ⟨_, by first | rfl | (simp [*, errW_none, errW_some] <;> rfl), rr HO_7, bb HB⟩
def spec_l3Counts.l0 : Nat → List (S28) → Int → List Int → Int → List (List Int) → Option (List Int)
  | 0, _, _, _, _, _ => none
  | k + 1, x1, x2, x7, x8, x654000 => if 0 ≤ x2 then (if x2 < (x654000.length : Int) then (if x8 < ((rd_L1 x654000 x2).length : Int) then ((spec_l3Noticed.f k x1 x2 x8).bind fun t658 => (if x7.length < 17592186044416 then (spec_l3Counts.l0 k x1 x2 (x7 ++ [(t658.length : Int)]) (wrap64 (x8 + 1)) x654000) else (none))) else (some x7)) else (none)) else (none)
def spec_l3Counts.f (k : Nat) (l0_0 : List (List Int)) (l1 : List (S28)) (a2 : Int) : Option (List Int) := spec_l3Counts.l0 k l1 a2 (([] : List Int)) 0 l0_0
set_option maxHeartbeats 8000000 in
set_option maxRecDepth 100000 in
theorem spec_l3Counts.calls (k : Nat) (A0_0 : Option Addr) (c0_0 : Nat) (l0_0 : List (List Int)) (A1 : Option Addr) (c1 : Nat) (l1 : List (S28)) (a2 : Int) (r : List Int) (w : World) (hr0_0 : Kd.C (Kd.slice 5 (Kd.int .u8)) w A0_0 l0_0.length l0_0) (hc0_0 : l0_0.length ≤ c0_0) (hr1 : Kd.C k28 w A1 l1.length l1) (hc1 : l1.length ≤ c1) (h : spec_l3Counts.f k l0_0 l1 a2 = some r) :
    Calls Tryd.prog 79 #[.agg #[.slice A0_0 l0_0.length c0_0], .slice A1 l1.length c1, .int .i64 a2] w fun e w' => ∃ v0_ : Value, e = .returned (v0_) ∧ Kd.R (Kd.int .i64) 3 w' w.heap.size (fun _ => True) v0_ r ∧ Below w.heap.size w w' := by
 have hu26 := Tryd.underlying26
 have HR0_0 := am hr0_0
 have HC0_0 := am hc0_0
 clear hr0_0 hc0_0
 have HR1 := am hr1
 have HC1 := am hc1
 clear hr1 hc1
 have HB := am (Below.refl w.heap.size w)
 have H : (spec_l3Counts.l0 k l1 a2 (([] : List Int)) 0 l0_0) = some r := h
 clear h
 obtain ⟨y654, hy654⟩ : ∃ y_ : List Int, y_ = (([] : List Int)) := ⟨_, rfl⟩
 replace H : (spec_l3Counts.l0 k l1 a2 y654 0 l0_0) = some r := by first | (rw [hy654]; with_reducible exact H) | (have H2_ := (Option.bind_some _ _).symm.trans H; rw [hy654]; with_reducible exact H2_) | (have H2_ := (Option.bind_some _ _).symm.trans H; with_reducible exact H2_) | with_reducible exact H | (rw [hy654]; exact H) | exact H
 have Ny654 := am hy654
 clear hy654
 have H' := am H
 clear H
 go_enter Tryd.func79, Tryd.ntmps79
 go_wp2_with (first | ((with_reducible refine gate_dst (N := 3) rfl ?_); refine bE 3 #[.slice A0_0 l0_0.length c0_0] 26 ?_; intro gb653 hg w4 hbox hb; have BK653 := am hbox; have GW653 := am ((by rw [hg]; exact (below_size (bb HB)) : w.heap.size ≤ gb653)); have GE653 := am ((by rw [hg]; exact (below_size (bb HB)) : w.heap.size ≤ gb653)); replace HB := am (below_step (bb HB) hb); clear hb hbox hg) | ((with_reducible refine gate_dst (N := 9) rfl ?_); refine Kd.R_lit (Kd.int .i64) _ 3 ?hg (N := 9) ?hd (xs := ([] : List Int)) (inner := []) (ok := fun _ => True) (okp := fun _ => True) ?hr ?hp (fun _ hk => hk) trivial (Below.refl _ _) (Nat.le_refl _) (by simp) ?_; (case hd => rfl); (case hg => rfl); (case hr => first | (go_simp; done) | (go_simp; rfl)); (case hp => exact (Reps.none _ _)); intro v655 w5 ho6 hb hg_ hnew_; clear hg_ hnew_; (first | rw [← Ny654.out] at ho6 | (simp only [Int.reduceToNat] at ho6; rw [← Ny654.out] at ho6)); have HO656 := am (Kd.R_lower ho6 (below_size (bs HB))); replace BK653 := b2 hb BK653; replace HB := am (below_step (bs HB) hb); clear hb ho6))
 go_loopg [7, 8] k (fun kq v7 v8 w' => ∃ (x7_1 : List Int) (x8_1 : Int), v8 = .int .i64 x8_1 ∧ Aside0 (spec_l3Counts.l0 kq l1 a2 x7_1 x8_1 l0_0 = some r) ∧ Aside0 (kq ≤ k) ∧ Aside0 (Kd.R (Kd.int .i64) 3 w' w.heap.size (fun _ => True) v7 x7_1) ∧ Aside0 (w'.heap[gb653]? = some (.cells #[(.slice A0_0 l0_0.length c0_0)] 26 (0, 0))) ∧ Aside0 (Below w.heap.size w w'))
 case atStart => exact ⟨(y654), (0), (by first | rfl | (simp; done) | (simp [*]; done)), H', ⟨Nat.le_refl _⟩, ⟨rr HO656⟩, ⟨kk BK653⟩, ⟨bs HB⟩⟩
 case round =>
  clear H'
  try clear c1
  try clear p2
  obtain ⟨x7_1, x8_1, rfl, HA, HK1, HO_7, BK653, HB⟩ := hrel
  cases gk with
  | zero => exact absurd HA.out (by simp [spec_l3Counts.l0])
  | succ k1 =>
   have H := HA.out
   clear HA
   simp only [spec_l3Counts.l0] at H
   by_cases c7 : 0 ≤ a2
   ·rw [if_pos c7] at H
    have c7b0 : decide (0 ≤ a2) = true := decide_eq_true c7
    clear c7
    by_cases c8 : a2 < (l0_0.length : Int)
    ·rw [if_pos c8] at H
     have c8b0 : decide (a2 < (l0_0.length : Int)) = true := decide_eq_true c8
     clear c8
     by_cases c9 : x8_1 < ((rd_L1 l0_0 a2).length : Int)
     ·rw [if_pos c9] at H
      have c9b0 : decide (x8_1 < ((rd_L1 l0_0 a2).length : Int)) = true := decide_eq_true c9
      clear c9
      replace H := Option.bind_eq_some_iff.mp H
      obtain ⟨t658, A100, H⟩ := H
      try dsimp only at H
      have A10 := am A100
      clear A100
      by_cases c11 : x7_1.length < 17592186044416
      ·rw [if_pos c11] at H
       have LMc11 := am c11
       clear c11
       obtain ⟨y661, hy661⟩ : ∃ y_ : List Int, y_ = (x7_1 ++ [(t658.length : Int)]) := ⟨_, rfl⟩
       replace H : (spec_l3Counts.l0 k1 l1 a2 y661 (wrap64 (x8_1 + 1)) l0_0) = some r := by first | (rw [hy661]; with_reducible exact H) | (have H2_ := (Option.bind_some _ _).symm.trans H; rw [hy661]; with_reducible exact H2_) | (have H2_ := (Option.bind_some _ _).symm.trans H; with_reducible exact H2_) | with_reducible exact H | (rw [hy661]; exact H) | exact H
       have Ny661 := am hy661
       clear hy661
       have H' := am H
       clear H
       obtain ⟨_, _⟩ := z1 BK653
       have p657 : 0 ≤ (a2 : Int) := of_decide_eq_true (by assumption)
       have q657 : a2 < (l0_0.length : Int) := of_decide_eq_true (by assumption)
       obtain ⟨ad657, A657_0, c657_0, e657, hx657_0, hl657_0, hi657_0⟩ := at_L1 HR0_0.out a2 p657 q657
       cases e657
       try replace hx657_0 := (HB.out.cell (World.block_lt_of_cell? w _ hx657_0)).trans hx657_0
       have HR657_0 := am hi657_0
       have HC657_0 := am hl657_0
       clear hi657_0 hl657_0
       replace p657 := eq_true p657
       replace q657 := eq_true q657
       go_wp2_with (first | ((with_reducible refine gate_callee (f := 114) rfl ?_); refine gL 24 Tryd.func114 #[.slice A1 l1.length c1, .int .i64 a2, .int .i64 x8_1] ?_; (with_reducible refine (spec_l3Noticed.calls k1 _ _ l1 a2 x8_1 t658 _ ?side1 ?side2 A10.out).mono ?_); (case side1 => exact cc (Kd.C_below HR1.out HB.out)); (case side2 => exact HC1.out); rintro e w13 ⟨v659, rfl, ho0, hb⟩; refine ⟨_, rfl, ?_⟩; have HO660 := am (Kd.R_lower (Kd.R_new' ho0 (Kd.R_lt (rr HO_7))) (below_size (bs HB))); replace HO_7 := am (Kd.R_elder' (rr HO_7) (Kd.R_base ho0) hb); replace BK653 := b2 hb BK653; replace HB := am (below_step (bs HB) hb); (try clear hb); (try clear hk); (try clear hi); (try clear ho0); obtain ⟨Ao14, co14, eo14⟩ := Kd.R_slice HO660.out; subst eo14) | ((with_reducible refine gate_builtin (b := .append) (xs := #[.tmp 20, .tmp 26]) rfl ?_); at_builtin; refine Kd.R_append (Kd.int .i64) (w0 := w) w.heap.size rfl (.tmp 20) (.tmp 26) 39 3 (.int .i64 0) 8 rfl Tryd.underlying39 info3 rfl (by decide) (by omega) u7 x7_1 (t658.length : Int) [.int .i64 (t658.length : Int)] (fun k_ => some k_ ≠ (.slice Ao14 t658.length co14 : Value).ownBlock) (fun _ => False) rfl rfl ?aP (fun _ hk => hk.elim) ?aF ?aO ?aB ?aS ?aL ?_; (case aP => exact rfl); (case aB => exact (bs HB)); (case aF => exact (fun k_ hk => Kd.fresh' (Kd.R_lt (rr HO660)) k_ hk)); (case aO => exact (by (with_reducible repeat (first | apply Kd.R_alloc | apply Kd.R_drewN | apply Kd.R_drew)); exact Kd.R_mono HO_7.out (fun _ hk => hk.2))); (case aS => exact (below_size (bs HB))); (case aL => have := LMc11.out; omega); intro v662 w15 ho hb hg hat; rw [← Ny661.out] at ho; replace BK653 := am (blk_grown (g := gb653) (o := .cells #[.slice (some ad657) l0_0.length c0_0] 26 (0, 0)) (kk BK653) hg (Kd.R_ne HO_7.out BK653.out (by decide))); replace HO660 := am (Kd.R_after (ok := (fun _ => True)) (rr HO660) hg hat); replace HB := am hb; have HO663 := am ho; clear HO_7; clear ho hb hg hat))
       go_roundg k1
       case measure => have := HK1.out; omega
       case rel => exact ⟨(y661), (wrap64 (x8_1 + 1)), (by first | rfl | (simp; done) | (simp [*]; done)), H', ⟨by have := HK1.out; omega⟩, ⟨by (with_reducible repeat (first | apply Kd.R_alloc | apply Kd.R_drewN | apply Kd.R_drew)); exact Kd.R_mono HO663.out (fun _ hk => trivial)⟩, ⟨kk BK653⟩, ⟨bs HB⟩⟩
      ·rw [if_neg c11] at H
       exact absurd H (by simp)
     ·rw [if_neg c9] at H
      have c9b0 : decide (x8_1 < ((rd_L1 l0_0 a2).length : Int)) = false := decide_eq_false c9
      clear c9
      obtain rfl := Option.some.inj H
      obtain ⟨_, _⟩ := z1 BK653
      have p657 : 0 ≤ (a2 : Int) := of_decide_eq_true (by assumption)
      have q657 : a2 < (l0_0.length : Int) := of_decide_eq_true (by assumption)
      obtain ⟨ad657, A657_0, c657_0, e657, hx657_0, hl657_0, hi657_0⟩ := at_L1 HR0_0.out a2 p657 q657
      cases e657
      try replace hx657_0 := (HB.out.cell (World.block_lt_of_cell? w _ hx657_0)).trans hx657_0
      have HR657_0 := am hi657_0
      have HC657_0 := am hl657_0
      clear hi657_0 hl657_0
      replace p657 := eq_true p657
      replace q657 := eq_true q657
      go_wp2
      go_ret
      exact ⟨_, by first | rfl | (simp [*, errW_none, errW_some] <;> rfl), rr HO_7, bs HB⟩
    ·rw [if_neg c8] at H
     exact absurd H (by simp)
   ·rw [if_neg c7] at H
    exact absurd H (by simp)
def spec_NoticedCounts.f (k : Nat) (l0_0 : List (List Int)) (l1 : List (S28)) (a2 : Int) : Option (List Int × Bool) := (spec_l3Watched.f k l0_0 l1).bind fun t665 => (if t665 = true then ((spec_l1In.f a2 0 (wrap64 ((l0_0.length : Int) - 1))).bind fun t666 => (if t666 = true then ((spec_l3Counts.f k l0_0 l1 a2).bind fun t667 => (some (t667, true))) else (some ((([] : List Int)), false)))) else (some ((([] : List Int)), false)))
set_option maxHeartbeats 8000000 in
set_option maxRecDepth 100000 in
theorem spec_NoticedCounts.calls (k : Nat) (A0_0 : Option Addr) (c0_0 : Nat) (l0_0 : List (List Int)) (A1 : Option Addr) (c1 : Nat) (l1 : List (S28)) (a2 : Int) (r1 : List Int) (r2 : Bool) (w : World) (hr0_0 : Kd.C (Kd.slice 5 (Kd.int .u8)) w A0_0 l0_0.length l0_0) (hc0_0 : l0_0.length ≤ c0_0) (hr1 : Kd.C k28 w A1 l1.length l1) (hc1 : l1.length ≤ c1) (h : spec_NoticedCounts.f k l0_0 l1 a2 = some (r1, r2)) :
    Calls Tryd.prog 17 #[.agg #[.slice A0_0 l0_0.length c0_0], .slice A1 l1.length c1, .int .i64 a2] w fun e w' => ∃ v0_ : Value, e = .returned (.tuple #[v0_, .bool r2]) ∧ Kd.R (Kd.int .i64) 3 w' w.heap.size (fun _ => True) v0_ r1 ∧ Below w.heap.size w w' := by
 have hu26 := Tryd.underlying26
 have HR0_0 := am hr0_0
 have HC0_0 := am hc0_0
 clear hr0_0 hc0_0
 have HR1 := am hr1
 have HC1 := am hc1
 clear hr1 hc1
 have HB := am (Below.refl w.heap.size w)
 have H : ((spec_l3Watched.f k l0_0 l1).bind fun t665 => (if t665 = true then ((spec_l1In.f a2 0 (wrap64 ((l0_0.length : Int) - 1))).bind fun t666 => (if t666 = true then ((spec_l3Counts.f k l0_0 l1 a2).bind fun t667 => (some (t667, true))) else (some ((([] : List Int)), false)))) else (some ((([] : List Int)), false)))) = some (r1, r2) := h
 clear h
 replace H := Option.bind_eq_some_iff.mp H
 obtain ⟨t665, A40, H⟩ := H
 try dsimp only at H
 have A4 := am A40
 clear A40
 by_cases c5 : t665 = true
 ·subst c5
  have H1 : ((spec_l1In.f a2 0 (wrap64 ((l0_0.length : Int) - 1))).bind fun t666 => (if t666 = true then ((spec_l3Counts.f k l0_0 l1 a2).bind fun t667 => (some (t667, true))) else (some ((([] : List Int)), false)))) = some (r1, r2) := by rw [if_pos rfl] at H; exact H
  clear H
  have H := H1
  clear H1
  replace H := Option.bind_eq_some_iff.mp H
  obtain ⟨t666, A60, H⟩ := H
  try dsimp only at H
  have A6 := am A60
  clear A60
  by_cases c7 : t666 = true
  ·subst c7
   have H1 : ((spec_l3Counts.f k l0_0 l1 a2).bind fun t667 => (some (t667, true))) = some (r1, r2) := by rw [if_pos rfl] at H; exact H
   clear H
   have H := H1
   clear H1
   replace H := Option.bind_eq_some_iff.mp H
   obtain ⟨t667, A80, H⟩ := H
   try dsimp only at H
   have A8 := am A80
   clear A80
   simp only [Option.some.injEq, Prod.mk.injEq] at H
   obtain ⟨rfl, rfl⟩ := H
   go_enter Tryd.func17, Tryd.ntmps17
   go_wp2_with (first | ((with_reducible refine gate_dst (N := 3) rfl ?_); (try (refine gate_guard (by rfl) ?_; dsimp only)); refine bE 3 #[.slice A0_0 l0_0.length c0_0] 26 ?_; intro gb664 hg w9 hbox hb; have BK664 := am hbox; have GW664 := am ((by rw [hg]; exact (below_size (bb HB)) : w.heap.size ≤ gb664)); have GE664 := am ((by rw [hg]; exact (below_size (bb HB)) : w.heap.size ≤ gb664)); replace HB := am (below_step (bb HB) hb); clear hb hbox hg; obtain ⟨_, _⟩ := z1 BK664) | ((with_reducible refine gate_callee (f := 77) rfl ?_); refine gL 10 Tryd.func77 #[.agg #[.slice A0_0 l0_0.length c0_0], .slice A1 l1.length c1] ?_; (with_reducible refine (spec_l3Watched.calls k _ _ l0_0 _ _ l1 true _ ?side1 ?side2 ?side3 ?side4 A4.out).mono ?_); (case side1 => exact cc (Kd.C_below HR0_0.out HB.out)); (case side2 => exact HC0_0.out); (case side3 => exact cc (Kd.C_below HR1.out HB.out)); (case side4 => exact HC1.out); rintro e w11 ⟨rfl, hb⟩; refine ⟨_, rfl, ?_⟩; replace BK664 := b2 hb BK664; replace HB := am (below_step (bs HB) hb); (try clear hb); (try clear hk); (try clear hi); obtain ⟨_, _⟩ := z1 BK664) | (go_at_call 78; (with_reducible refine (spec_l1In.calls a2 0 (wrap64 ((l0_0.length : Int) - 1)) true _ A6.out).mono ?_); rintro e w' ⟨rfl, ⟨nd, rfl⟩⟩) | ((with_reducible refine gate_callee (f := 79) rfl ?_); refine gL 25 Tryd.func79 #[.agg #[.slice A0_0 l0_0.length c0_0], .slice A1 l1.length c1, .int .i64 a2] ?_; (with_reducible refine (spec_l3Counts.calls k _ _ l0_0 _ _ l1 a2 t667 _ ?side1 ?side2 ?side3 ?side4 A8.out).mono ?_); (case side1 => repeat (first | exact (Kd.C_below HR0_0.out (bs HB)) | (with_reducible first | apply Kd.C_alloc | apply Kd.C_drewN | apply Kd.C_drew))); (case side2 => exact HC0_0.out); (case side3 => repeat (first | exact (Kd.C_below HR1.out (bs HB)) | (with_reducible first | apply Kd.C_alloc | apply Kd.C_drewN | apply Kd.C_drew))); (case side4 => exact HC1.out); rintro e w13 ⟨v668, rfl, ho0, hb⟩; refine ⟨_, rfl, ?_⟩; have HO669 := am (Kd.R_lower ho0 (below_size (bs HB))); replace BK664 := b2 hb BK664; replace HB := am (below_step (bs HB) hb); (try clear hb); (try clear hk); (try clear hi); (try clear ho0)))
   go_ret2
   exact ⟨_, by first | rfl | (simp [*, errW_none, errW_some] <;> rfl), rr HO669, bs HB⟩
  ·replace c7 := Bool.eq_false_iff.mpr c7
   subst c7
   have H1 : (some ((([] : List Int)), false)) = some (r1, r2) := by rw [if_neg (show ¬ (false = true) by decide)] at H; exact H
   clear H
   have H := H1
   clear H1
   obtain ⟨y670, hy670⟩ : ∃ y_ : List Int, y_ = (([] : List Int)) := ⟨_, rfl⟩
   replace H : (some (y670, false)) = some (r1, r2) := by first | (rw [hy670]; with_reducible exact H) | (have H2_ := (Option.bind_some _ _).symm.trans H; rw [hy670]; with_reducible exact H2_) | (have H2_ := (Option.bind_some _ _).symm.trans H; with_reducible exact H2_) | with_reducible exact H | (rw [hy670]; exact H) | exact H
   have Ny670 := am hy670
   clear hy670
   simp only [Option.some.injEq, Prod.mk.injEq] at H
   obtain ⟨rfl, rfl⟩ := H
   go_enter Tryd.func17, Tryd.ntmps17
   go_wp2_with (first | ((with_reducible refine gate_dst (N := 3) rfl ?_); (try (refine gate_guard (by rfl) ?_; dsimp only)); refine bE 3 #[.slice A0_0 l0_0.length c0_0] 26 ?_; intro gb664 hg w14 hbox hb; have BK664 := am hbox; have GW664 := am ((by rw [hg]; exact (below_size (bb HB)) : w.heap.size ≤ gb664)); have GE664 := am ((by rw [hg]; exact (below_size (bb HB)) : w.heap.size ≤ gb664)); replace HB := am (below_step (bb HB) hb); clear hb hbox hg; obtain ⟨_, _⟩ := z1 BK664) | ((with_reducible refine gate_callee (f := 77) rfl ?_); refine gL 10 Tryd.func77 #[.agg #[.slice A0_0 l0_0.length c0_0], .slice A1 l1.length c1] ?_; (with_reducible refine (spec_l3Watched.calls k _ _ l0_0 _ _ l1 true _ ?side1 ?side2 ?side3 ?side4 A4.out).mono ?_); (case side1 => exact cc (Kd.C_below HR0_0.out HB.out)); (case side2 => exact HC0_0.out); (case side3 => exact cc (Kd.C_below HR1.out HB.out)); (case side4 => exact HC1.out); rintro e w16 ⟨rfl, hb⟩; refine ⟨_, rfl, ?_⟩; replace BK664 := b2 hb BK664; replace HB := am (below_step (bs HB) hb); (try clear hb); (try clear hk); (try clear hi); obtain ⟨_, _⟩ := z1 BK664) | (go_at_call 78; (with_reducible refine (spec_l1In.calls a2 0 (wrap64 ((l0_0.length : Int) - 1)) false _ A6.out).mono ?_); rintro e w' ⟨rfl, ⟨nd, rfl⟩⟩) | ((with_reducible refine gate_dst (N := 21) rfl ?_); (try (refine gate_guard (by rfl) ?_; dsimp only)); refine Kd.R_lit (Kd.int .i64) _ 3 ?hg (N := 21) ?hd (xs := ([] : List Int)) (inner := []) (ok := fun _ => True) (okp := fun _ => True) ?hr ?hp (fun _ hk => hk) trivial (Below.refl _ _) (Nat.le_refl _) (by simp) ?_; (case hd => rfl); (case hg => rfl); (case hr => first | (go_simp; done) | (go_simp; rfl)); (case hp => exact (Reps.none _ _)); intro v671 w18 ho19 hb hg_ hnew_; clear hg_ hnew_; (first | rw [← Ny670.out] at ho19 | (simp only [Int.reduceToNat] at ho19; rw [← Ny670.out] at ho19)); have HO672 := am (Kd.R_lower ho19 (below_size (bs HB))); replace BK664 := b2 hb BK664; replace HB := am (below_step (bs HB) hb); clear hb ho19))
   go_ret2
   exact ⟨_, by first | rfl | (simp [*, errW_none, errW_some] <;> rfl), rr HO672, bs HB⟩
 ·replace c5 := Bool.eq_false_iff.mpr c5
  subst c5
  have H1 : (some ((([] : List Int)), false)) = some (r1, r2) := by rw [if_neg (show ¬ (false = true) by decide)] at H; exact H
  clear H
  have H := H1
  clear H1
  obtain ⟨y673, hy673⟩ : ∃ y_ : List Int, y_ = (([] : List Int)) := ⟨_, rfl⟩
  replace H : (some (y673, false)) = some (r1, r2) := by first | (rw [hy673]; with_reducible exact H) | (have H2_ := (Option.bind_some _ _).symm.trans H; rw [hy673]; with_reducible exact H2_) | (have H2_ := (Option.bind_some _ _).symm.trans H; with_reducible exact H2_) | with_reducible exact H | (rw [hy673]; exact H) | exact H
  have Ny673 := am hy673
  clear hy673
  simp only [Option.some.injEq, Prod.mk.injEq] at H
  obtain ⟨rfl, rfl⟩ := H
  go_enter Tryd.func17, Tryd.ntmps17
  go_wp2_with (first | ((with_reducible refine gate_dst (N := 3) rfl ?_); (try (refine gate_guard (by rfl) ?_; dsimp only)); refine bE 3 #[.slice A0_0 l0_0.length c0_0] 26 ?_; intro gb664 hg w20 hbox hb; have BK664 := am hbox; have GW664 := am ((by rw [hg]; exact (below_size (bb HB)) : w.heap.size ≤ gb664)); have GE664 := am ((by rw [hg]; exact (below_size (bb HB)) : w.heap.size ≤ gb664)); replace HB := am (below_step (bb HB) hb); clear hb hbox hg; obtain ⟨_, _⟩ := z1 BK664) | ((with_reducible refine gate_callee (f := 77) rfl ?_); refine gL 10 Tryd.func77 #[.agg #[.slice A0_0 l0_0.length c0_0], .slice A1 l1.length c1] ?_; (with_reducible refine (spec_l3Watched.calls k _ _ l0_0 _ _ l1 false _ ?side1 ?side2 ?side3 ?side4 A4.out).mono ?_); (case side1 => exact cc (Kd.C_below HR0_0.out HB.out)); (case side2 => exact HC0_0.out); (case side3 => exact cc (Kd.C_below HR1.out HB.out)); (case side4 => exact HC1.out); rintro e w22 ⟨rfl, hb⟩; refine ⟨_, rfl, ?_⟩; replace BK664 := b2 hb BK664; replace HB := am (below_step (bs HB) hb); (try clear hb); (try clear hk); (try clear hi)) | ((with_reducible refine gate_dst (N := 21) rfl ?_); (try (refine gate_guard (by rfl) ?_; dsimp only)); refine Kd.R_lit (Kd.int .i64) _ 3 ?hg (N := 21) ?hd (xs := ([] : List Int)) (inner := []) (ok := fun _ => True) (okp := fun _ => True) ?hr ?hp (fun _ hk => hk) trivial (Below.refl _ _) (Nat.le_refl _) (by simp) ?_; (case hd => rfl); (case hg => rfl); (case hr => first | (go_simp; done) | (go_simp; rfl)); (case hp => exact (Reps.none _ _)); intro v674 w23 ho24 hb hg_ hnew_; clear hg_ hnew_; (first | rw [← Ny673.out] at ho24 | (simp only [Int.reduceToNat] at ho24; rw [← Ny673.out] at ho24)); have HO675 := am (Kd.R_lower ho24 (below_size (bs HB))); replace BK664 := b2 hb BK664; replace HB := am (below_step (bs HB) hb); clear hb ho24))
  go_ret2
  exact ⟨_, by first | rfl | (simp [*, errW_none, errW_some] <;> rfl), rr HO675, bs HB⟩
def PredN (g : Nat) (lb : Array Value) (p : Int → S28 → Bool) (n : Nat) (w : World) : Prop :=
  ∀ (W : World) (i : Nat) (x : S28), i < n → Below w.heap.size w W → Calls Tryd.prog g (#[.int .i64 (i : Int), WinV x] ++ lb) W fun e w' => e = .returned (.bool (p (i : Int) x)) ∧ Below W.heap.size W w'
def PredL (g : Nat) (lb : Array Value) (p : Int → S28 → Bool) (l : List S28) (w : World) : Prop :=
  ∀ (W : World) (i : Nat), i < l.length → Below w.heap.size w W → Calls Tryd.prog g (#[.int .i64 (i : Int), WinV (rd_T28 l (i : Int))] ++ lb) W fun e w' => e = .returned (.bool (p (i : Int) (rd_T28 l (i : Int)))) ∧ Below W.heap.size W w'
def numsF (p : Int → S28 → Bool) : List S28 → Int → List Int
  | [], _ => []
  | x :: xs, i => if p i x = true then i :: numsF p xs (i + 1) else numsF p xs (i + 1)
theorem numsF_drop (p : Int → S28 → Bool) (l : List S28) (k : Nat) (h : k < l.length) : numsF p (l.drop k) k = if p (k : Int) (rd_T28 l (k : Int)) = true then (k : Int) :: numsF p (l.drop (k + 1)) ((k + 1 : Nat) : Int) else numsF p (l.drop (k + 1)) ((k + 1 : Nat) : Int) := by
  rw [drop_cons l z28 k h, numsF]
  rfl
set_option maxHeartbeats 4000000 in
set_option maxRecDepth 100000 in
theorem numbersOfL.calls (g : Nat) (lb : Array Value) (p : Int → S28 → Bool) (A0 : Option Addr) (c0 : Nat) (l : List S28) (w : World) (eg : ∀ args w, (callFunc g args).run Tryd.prog w = .ok (.enter g args) w)
    (hp : PredL g lb p l w) (hr : Kd.C k28 w A0 l.length l) (hlen : l.length ≤ 1048576) :
    Calls Tryd.prog 74 #[.slice A0 l.length c0, .func (.func g) #[] lb] w fun e w' => ∃ v0_ : Value, e = .returned v0_ ∧ Kd.R (Kd.int .i64) 3 w' w.heap.size (fun _ => True) v0_ (numsF p l 0) ∧ Below w.heap.size w w' := by
 have hmax : l.length ≤ 9223372036854775807 := hr.2.1
 have HP := am hp
 have HR := am hr
 have HL := am hlen
 clear hp hr hlen
 have HB := am (Below.refl w.heap.size w)
 obtain ⟨y0, hy0⟩ : ∃ y_ : List Int, y_ = ([] : List Int) := ⟨_, rfl⟩
 have Ny0 := am hy0
 clear hy0
 go_enter Tryd.func74, Tryd.ntmps74
 go_wp2_with (first | ((with_reducible refine gate_dst (N := 8) rfl ?_); refine Kd.R_lit (Kd.int .i64) _ 3 ?hg (N := 8) ?hd (xs := ([] : List Int)) (inner := []) (ok := fun _ => True) (okp := fun _ => True) ?hr ?hp (fun _ hk => hk) trivial (Below.refl _ _) (Nat.le_refl _) (by simp) ?_; (case hd => rfl); (case hg => rfl); (case hr => first | (go_simp; done) | (go_simp; rfl)); (case hp => exact (Reps.none _ _)); intro v328 w4 ho5 hb hg_ hnew_; clear hg_ hnew_; (first | rw [← Ny0.out] at ho5 | (simp only [Int.reduceToNat] at ho5; rw [← Ny0.out] at ho5)); have HO5 := am (Kd.R_lower ho5 (below_size (bb HB))); replace HB := am (below_step (bb HB) hb); clear hb ho5))
 go_loopg [5, 11] l.length (fun gg s5 s11 wr => ∃ (kk : Nat) (acc : List Int), kk ≤ l.length ∧ l.length - kk ≤ gg ∧ s11 = .int .i64 kk ∧ Aside0 (Below w.heap.size w wr) ∧ Aside0 (Kd.R (Kd.int .i64) 3 wr w.heap.size (fun _ => True) s5 acc) ∧ Aside0 (acc ++ numsF p (l.drop kk) kk = numsF p l 0) ∧ Aside0 (acc.length ≤ kk))
 case atStart => exact ⟨0, y0, Nat.zero_le _, by omega, rfl, ⟨bb HB⟩, ⟨rr HO5⟩, ⟨by rw [Ny0.out]; rfl⟩, ⟨by rw [Ny0.out]; simp⟩⟩
 case round =>
  clear HB HO5 Ny0
  obtain ⟨kk, acc, hkk, hg, rfl, HB, HO, HK, HA⟩ := hrel
  by_cases hlt : kk < l.length
  ·have hltz : (kk : Int) < (l.length : Int) := by omega
   obtain ⟨ad, e0, x0, x1, x2, x3⟩ := at_T28 (Kd.C_below HR.out HB.out) (kk : Int) (by omega) hltz
   cases e0
   simp only [Int.toNat_natCast] at x0 x1 x2 x3
   have HK2 := am ((congrArg (fun z => acc ++ z) (numsF_drop p l kk hlt)).symm.trans HK.out)
   clear HK
   have HQ0 := am (fun W hW => HP.out W kk hlt hW)
   generalize hy : rd_T28 l (kk : Int) = y at x0 x1 x2 x3 HQ0 HK2
   clear hy
   cases hq : p (kk : Int) y with
   | true =>
    have HQ := am hq
    clear hq
    have HC := am (fun W hW => by have := HQ0.out W hW; rw [HQ.out] at this; exact this)
    have HK := am (HK2.out)
    obtain ⟨y1, hy1⟩ : ∃ y_ : List Int, y_ = acc ++ [(kk : Int)] := ⟨_, rfl⟩
    have Ny1 := am hy1
    clear hy1 HQ0 HK2
    go_wp2_with (first | (go_at_fn g; refine (HC.out _ (below_alloc HB.out _)).mono ?_; rintro e w11 ⟨rfl, hb⟩; replace HO := am (Kd.R_below (Kd.R_alloc HO.out _) hb); replace HB := am (below_step (below_alloc HB.out _) hb); clear hb) | ((with_reducible refine gate_builtin (b := .append) (xs := #[.tmp 20, .tmp 22]) rfl ?_); at_builtin; refine Kd.R_append (Kd.int .i64) (w0 := w) w.heap.size rfl (.tmp 20) (.tmp 22) 39 3 (.int .i64 0) 8 rfl Tryd.underlying39 info3 rfl (by decide) (by omega) u5 acc (kk : Int) [.int .i64 (kk : Int)] (fun _ => True) (fun _ => False) rfl rfl ?aP (fun _ hk => hk.elim) ?aF ?aO ?aB ?aS ?aL ?_; (case aP => exact rfl); (case aB => exact (bb HB)); (case aF => exact (fun _ _ => trivial)); (case aO => exact (rr HO)); (case aS => exact (below_size (bb HB))); (case aL => have := HA.out; have := HL.out; omega); intro v333 w12 ho hb hg hat; rw [← Ny1.out] at ho; replace HB := am hb; replace HO := am ho; clear ho hb hg hat))
    go_roundg (l.length - (kk + 1))
    case measure => omega
    case rel => exact ⟨kk + 1, y1, by omega, by omega, by go_num, ⟨bb HB⟩, ⟨rr HO⟩, ⟨by rw [Ny1.out, List.append_assoc]; have h := HK.out; rw [if_pos HQ.out] at h; exact h⟩, ⟨by rw [Ny1.out, List.length_append]; have := HA.out; simp; omega⟩⟩
   | false =>
    have HQ := am hq
    clear hq
    have HC := am (fun W hW => by have := HQ0.out W hW; rw [HQ.out] at this; exact this)
    have HK := am (HK2.out)
    clear HQ0 HK2
    go_wp2_with (first | (go_at_fn g; refine (HC.out _ (below_alloc HB.out _)).mono ?_; rintro e w11 ⟨rfl, hb⟩; replace HO := am (Kd.R_below (Kd.R_alloc HO.out _) hb); replace HB := am (below_step (below_alloc HB.out _) hb); clear hb))
    go_roundg (l.length - (kk + 1))
    case measure => omega
    case rel => exact ⟨kk + 1, acc, by omega, by omega, by go_num, ⟨bb HB⟩, ⟨rr HO⟩, ⟨by have h := HK.out; rw [if_neg (by rw [HQ.out]; simp)] at h; exact h⟩, ⟨by have := HA.out; omega⟩⟩
  ·have hltz : ¬ (kk : Int) < (l.length : Int) := by omega
   go_wp2
   go_ret
   have e1 : acc = numsF p l 0 := by have h := HK.out; rw [List.drop_eq_nil_of_le (by omega)] at h; simpa [numsF] using h
   exact ⟨_, rfl, by rw [← e1]; (with_reducible repeat (first | apply Kd.R_alloc | apply Kd.R_drewN | apply Kd.R_drew)); exact HO.out, bb HB⟩
theorem numbersOf.calls (g : Nat) (lb : Array Value) (p : Int → S28 → Bool) (A0 : Option Addr) (c0 : Nat) (l : List S28) (w : World) (eg : ∀ args w, (callFunc g args).run Tryd.prog w = .ok (.enter g args) w)
    (hp : PredN g lb p l.length w) (hr : Kd.C k28 w A0 l.length l) (hlen : l.length ≤ 1048576) :
    Calls Tryd.prog 74 #[.slice A0 l.length c0, .func (.func g) #[] lb] w fun e w' => ∃ v0_ : Value, e = .returned v0_ ∧ Kd.R (Kd.int .i64) 3 w' w.heap.size (fun _ => True) v0_ (numsF p l 0) ∧ Below w.heap.size w w' := numbersOfL.calls g lb p A0 c0 l w eg (fun W i hi hW => hp W i _ hi hW) hr hlen
def impl_areWatched.f (k : Nat) (l0_0 : List (List Int)) (l1 : List (S28)) : Option (Bool) := (impl_areOn.f k l0_0 l1).bind fun t169 => (if t169 = true then (some (decide ((l1.length : Int) ≤ 12))) else (some false))
set_option maxHeartbeats 8000000 in
set_option maxRecDepth 100000 in
theorem impl_areWatched.calls (k : Nat) (A0_0 : Option Addr) (c0_0 : Nat) (l0_0 : List (List Int)) (A1 : Option Addr) (c1 : Nat) (l1 : List (S28)) (r : Bool) (w : World) (hr0_0 : Kd.C (Kd.slice 5 (Kd.int .u8)) w A0_0 l0_0.length l0_0) (hc0_0 : l0_0.length ≤ c0_0) (hr1 : Kd.C k28 w A1 l1.length l1) (hc1 : l1.length ≤ c1) (h : impl_areWatched.f k l0_0 l1 = some r) :
    Calls Tryd.prog 72 #[.agg #[.slice A0_0 l0_0.length c0_0], .slice A1 l1.length c1] w fun e w' => e = .returned (.bool r) ∧ Below w.heap.size w w' := by
 have hu26 := Tryd.underlying26
 have HR0_0 := am hr0_0
 have HC0_0 := am hc0_0
 clear hr0_0 hc0_0
 have HR1 := am hr1
 have HC1 := am hc1
 clear hr1 hc1
 have HB := am (Below.refl w.heap.size w)
 have H : ((impl_areOn.f k l0_0 l1).bind fun t169 => (if t169 = true then (some (decide ((l1.length : Int) ≤ 12))) else (some false))) = some r := h
 clear h
 replace H := Option.bind_eq_some_iff.mp H
 obtain ⟨t169, A30, H⟩ := H
 try dsimp only at H
 have A3 := am A30
 clear A30
 by_cases c4 : t169 = true
 ·subst c4
  have H1 : (some (decide ((l1.length : Int) ≤ 12))) = some r := by rw [if_pos rfl] at H; exact H
  clear H
  have H := H1
  clear H1
  obtain rfl := Option.some.inj H
  go_enter Tryd.func72, Tryd.ntmps72
  go_wp2_with (first | ((with_reducible refine gate_dst (N := 2) rfl ?_); (try (refine gate_guard (by rfl) ?_; dsimp only)); refine bE 2 #[.slice A0_0 l0_0.length c0_0] 26 ?_; intro gb168 hg w5 hbox hb; have BK168 := am hbox; have GW168 := am ((by rw [hg]; exact (below_size (bb HB)) : w.heap.size ≤ gb168)); have GE168 := am ((by rw [hg]; exact (below_size (bb HB)) : w.heap.size ≤ gb168)); replace HB := am (below_step (bb HB) hb); clear hb hbox hg; obtain ⟨_, _⟩ := z1 BK168) | ((with_reducible refine gate_callee (f := 63) rfl ?_); refine gL 7 Tryd.func63 #[.agg #[.slice A0_0 l0_0.length c0_0], .slice A1 l1.length c1] ?_; (with_reducible refine (impl_areOn.calls k _ _ l0_0 _ _ l1 true _ ?side1 ?side2 ?side3 ?side4 A3.out).mono ?_); (case side1 => exact cc (Kd.C_below HR0_0.out HB.out)); (case side2 => exact HC0_0.out); (case side3 => exact cc (Kd.C_below HR1.out HB.out)); (case side4 => exact HC1.out); rintro e w7 ⟨rfl, hb⟩; refine ⟨_, rfl, ?_⟩; replace BK168 := b2 hb BK168; replace HB := am (below_step (bs HB) hb); (try clear hb); (try clear hk); (try clear hi)))
  go_ret
  exact ⟨by first | rfl | (simp [*, errW_none, errW_some] <;> rfl), bs HB⟩
 ·replace c4 := Bool.eq_false_iff.mpr c4
  subst c4
  have H1 : (some false) = some r := by rw [if_neg (show ¬ (false = true) by decide)] at H; exact H
  clear H
  have H := H1
  clear H1
  obtain rfl := Option.some.inj H
  go_enter Tryd.func72, Tryd.ntmps72
  go_wp2_with (first | ((with_reducible refine gate_dst (N := 2) rfl ?_); (try (refine gate_guard (by rfl) ?_; dsimp only)); refine bE 2 #[.slice A0_0 l0_0.length c0_0] 26 ?_; intro gb168 hg w8 hbox hb; have BK168 := am hbox; have GW168 := am ((by rw [hg]; exact (below_size (bb HB)) : w.heap.size ≤ gb168)); have GE168 := am ((by rw [hg]; exact (below_size (bb HB)) : w.heap.size ≤ gb168)); replace HB := am (below_step (bb HB) hb); clear hb hbox hg; obtain ⟨_, _⟩ := z1 BK168) | ((with_reducible refine gate_callee (f := 63) rfl ?_); refine gL 7 Tryd.func63 #[.agg #[.slice A0_0 l0_0.length c0_0], .slice A1 l1.length c1] ?_; (with_reducible refine (impl_areOn.calls k _ _ l0_0 _ _ l1 false _ ?side1 ?side2 ?side3 ?side4 A3.out).mono ?_); (case side1 => exact cc (Kd.C_below HR0_0.out HB.out)); (case side2 => exact HC0_0.out); (case side3 => exact cc (Kd.C_below HR1.out HB.out)); (case side4 => exact HC1.out); rintro e w10 ⟨rfl, hb⟩; refine ⟨_, rfl, ?_⟩; replace BK168 := b2 hb BK168; replace HB := am (below_step (bs HB) hb); (try clear hb); (try clear hk); (try clear hi)))
  go_ret
  exact ⟨by first | rfl | (simp [*, errW_none, errW_some] <;> rfl), bs HB⟩
def seesB (x : S28) (a p : Int) : Bool := (impl_Window_sees.f x.f0 x.f1 x.f2 x.f3 a p).getD false
theorem seesB_eq (x : S28) (a p : Int) : impl_Window_sees.f x.f0 x.f1 x.f2 x.f3 a p = some (seesB x a p) := by
  unfold seesB impl_Window_sees.f
  by_cases h : x.f0 = a
  · rw [if_pos h, within_eq]; rfl
  · rw [if_neg h]; rfl
set_option maxHeartbeats 2000000 in
set_option maxRecDepth 100000 in
theorem noticed1.calls (b b' : Nat) (a p : Int) (i : Nat) (x : S28) (w : World) (hb : w.heap[b]? = some (.cells #[.int .i64 a] 3 (0, 0))) (hb' : w.heap[b']? = some (.cells #[.int .i64 p] 3 (0, 0))) :
    Calls Tryd.prog 87 #[.int .i64 (i : Int), WinV x, .pointer (some ⟨b, 0, none⟩), .pointer (some ⟨b', 0, none⟩)] w fun e w' => e = .returned (.bool (seesB x a p)) ∧ Below w.heap.size w w' := by
 have q0 : w.cell? ⟨b, 0, none⟩ = some (.int .i64 a) := (blk_cell hb 0).trans rfl
 have q1 : w.cell? ⟨b', 0, none⟩ = some (.int .i64 p) := (blk_cell hb' 0).trans rfl
 have hlt : b < w.heap.size := blk_lt hb
 have hlt' : b' < w.heap.size := blk_lt hb'
 clear hb hb'
 have HW := Aside0.mk (seesB_eq x a p)
 go_enter Tryd.func87, Tryd.ntmps87
 go_wp2_with (go_at_call 76; (with_reducible refine (impl_Window_sees.calls x.f0 x.f1 x.f2 x.f3 a p _ _ HW.out).mono ?_); rintro e w' ⟨rfl, hb'⟩)
 go_ret
 exact ⟨rfl, below_step (below_alloc (Below.refl _ _) _) hb'⟩
set_option maxHeartbeats 2000000 in
set_option maxRecDepth 100000 in
theorem noticed2.calls (b b' : Nat) (a p : Int) (i : Nat) (x : S28) (w : World) (hb : w.heap[b]? = some (.cells #[.int .i64 a] 3 (0, 0))) (hb' : w.heap[b']? = some (.cells #[.int .i64 p] 3 (0, 0))) :
    Calls Tryd.prog 75 #[.int .i64 (i : Int), WinV x, .pointer (some ⟨b, 0, none⟩), .pointer (some ⟨b', 0, none⟩)] w fun e w' => e = .returned (.bool (seesB x a p)) ∧ Below w.heap.size w w' := by
 have q0 : w.cell? ⟨b, 0, none⟩ = some (.int .i64 a) := (blk_cell hb 0).trans rfl
 have q1 : w.cell? ⟨b', 0, none⟩ = some (.int .i64 p) := (blk_cell hb' 0).trans rfl
 have hlt : b < w.heap.size := blk_lt hb
 have hlt' : b' < w.heap.size := blk_lt hb'
 clear hb hb'
 have HW := Aside0.mk (seesB_eq x a p)
 go_enter Tryd.func75, Tryd.ntmps75
 go_wp2_with (go_at_call 76; (with_reducible refine (impl_Window_sees.calls x.f0 x.f1 x.f2 x.f3 a p _ _ HW.out).mono ?_); rintro e w' ⟨rfl, hb'⟩)
 go_ret
 exact ⟨rfl, below_step (below_alloc (Below.refl _ _) _) hb'⟩
def countsL (m : List (List Int)) (l : List S28) (a : Int) (n : Nat) : List Int := (List.range n).map fun (p : Nat) => ((numsF (fun _ x => seesB x a p) l 0).length : Int)
theorem countsL_len (m : List (List Int)) (l : List S28) (a : Int) (n : Nat) : (countsL m l a n).length = n := by simp [countsL]
theorem countsL_succ (m : List (List Int)) (l : List S28) (a : Int) (n : Nat) : countsL m l a (n + 1) = countsL m l a n ++ [((numsF (fun _ x => seesB x a n) l 0).length : Int)] := by simp [countsL, List.range_succ]
set_option maxHeartbeats 2000000 in
set_option maxRecDepth 100000 in
theorem counts_no1 (k : Nat) (A0 : Option Addr) (c0 : Nat) (m : List (List Int)) (A1 : Option Addr) (c1 : Nat) (l : List S28) (a : Int) (w : World) (hr0 : Kd.C (Kd.slice 5 (Kd.int .u8)) w A0 m.length m) (hc0 : m.length ≤ c0) (hr1 : Kd.C k28 w A1 l.length l) (hc1 : l.length ≤ c1) (h1 : impl_areWatched.f k m l = some false) :
    Calls Tryd.prog 16 #[.agg #[.slice A0 m.length c0], .slice A1 l.length c1, .int .i64 a] w fun e w' => e = .returned (.tuple #[.slice none 0 0, .bool false]) ∧ Below w.heap.size w w' := by
 have hu := Tryd.underlying26
 have HR0 := am hr0
 have HC0 := am hc0
 have HR1 := am hr1
 have HC1 := am hc1
 clear hr0 hc0 hr1 hc1
 have HB := am (Below.refl w.heap.size w)
 have HA1 := am h1
 clear h1
 go_enter Tryd.func16, Tryd.ntmps16
 go_wp2_with (first | ((with_reducible refine gate_dst (N := 3) rfl ?_); refine bE 3 #[.slice A0 m.length c0] 26 ?_; intro g3 hg w3 hbox hb; have GE3 := am ((by rw [hg]; exact below_size (bb HB) : w.heap.size ≤ g3)); replace HB := am (below_step (bb HB) hb); have BK3 := am hbox; clear hb hbox hg) | ((with_reducible refine gate_dst (N := 5) rfl ?_); refine bE 5 #[.int .i64 a] 3 ?_; intro g5 hg w5 hbox hb; have GE5 := am ((by rw [hg]; exact below_size (bb HB) : w.heap.size ≤ g5)); replace HB := am (below_step (bb HB) hb); have BK5 := am hbox; have NB3_5 := am ((by rw [hg]; exact Nat.ne_of_lt (blk_lt (g := g3) (o := .cells #[.slice A0 m.length c0] 26 (0, 0)) (kk BK3)) : g3 ≠ g5)); replace BK3 := b2 hb BK3; clear hb hbox hg; have hq5_3 : w5.cell? ⟨g3, 0, none⟩ = some (.slice A0 m.length c0) := (blk_cell BK3.out 0).trans rfl; have hz5_3 := blk_frozen BK3.out 0; have hq5_5 : w5.cell? ⟨g5, 0, none⟩ = some (.int .i64 a) := (blk_cell BK5.out 0).trans rfl; have hz5_5 := blk_frozen BK5.out 0) | (go_at_call 72; (with_reducible refine (impl_areWatched.calls k _ _ m _ _ l false _ ?s1 ?s2 ?s3 ?s4 HA1.out).mono ?_); (case s1 => exact Kd.C_below HR0.out (bb HB)); (case s2 => exact HC0.out); (case s3 => exact Kd.C_below HR1.out (bb HB)); (case s4 => exact HC1.out); rintro e wa ⟨rfl, hb⟩; replace BK3 := b2 hb BK3; replace BK5 := b2 hb BK5; replace HB := am (below_step (bb HB) hb); clear hb; have hcwa_3 : wa.cell? ⟨g3, 0, none⟩ = some (.slice A0 m.length c0) := (blk_cell BK3.out 0).trans rfl; have hdwa_3 := blk_frozen BK3.out 0; have hcwa_5 : wa.cell? ⟨g5, 0, none⟩ = some (.int .i64 a) := (blk_cell BK5.out 0).trans rfl; have hdwa_5 := blk_frozen BK5.out 0))
 go_ret2
 exact ⟨rfl, bb HB⟩
set_option maxHeartbeats 2000000 in
set_option maxRecDepth 100000 in
theorem counts_no2 (k : Nat) (A0 : Option Addr) (c0 : Nat) (m : List (List Int)) (A1 : Option Addr) (c1 : Nat) (l : List S28) (a : Int) (w : World) (hr0 : Kd.C (Kd.slice 5 (Kd.int .u8)) w A0 m.length m) (hc0 : m.length ≤ c0) (hr1 : Kd.C k28 w A1 l.length l) (hc1 : l.length ≤ c1) (h1 : impl_areWatched.f k m l = some true) (h2 : impl_Memory_hasArray.f m a = some false) :
    Calls Tryd.prog 16 #[.agg #[.slice A0 m.length c0], .slice A1 l.length c1, .int .i64 a] w fun e w' => e = .returned (.tuple #[.slice none 0 0, .bool false]) ∧ Below w.heap.size w w' := by
 have hu := Tryd.underlying26
 have HR0 := am hr0
 have HC0 := am hc0
 have HR1 := am hr1
 have HC1 := am hc1
 clear hr0 hc0 hr1 hc1
 have HB := am (Below.refl w.heap.size w)
 have HA1 := am h1
 clear h1
 have HA2 := am h2
 clear h2
 go_enter Tryd.func16, Tryd.ntmps16
 go_wp2_with (first | ((with_reducible refine gate_dst (N := 3) rfl ?_); refine bE 3 #[.slice A0 m.length c0] 26 ?_; intro g3 hg w3 hbox hb; have GE3 := am ((by rw [hg]; exact below_size (bb HB) : w.heap.size ≤ g3)); replace HB := am (below_step (bb HB) hb); have BK3 := am hbox; clear hb hbox hg) | ((with_reducible refine gate_dst (N := 5) rfl ?_); refine bE 5 #[.int .i64 a] 3 ?_; intro g5 hg w5 hbox hb; have GE5 := am ((by rw [hg]; exact below_size (bb HB) : w.heap.size ≤ g5)); replace HB := am (below_step (bb HB) hb); have BK5 := am hbox; have NB3_5 := am ((by rw [hg]; exact Nat.ne_of_lt (blk_lt (g := g3) (o := .cells #[.slice A0 m.length c0] 26 (0, 0)) (kk BK3)) : g3 ≠ g5)); replace BK3 := b2 hb BK3; clear hb hbox hg; have hq5_3 : w5.cell? ⟨g3, 0, none⟩ = some (.slice A0 m.length c0) := (blk_cell BK3.out 0).trans rfl; have hz5_3 := blk_frozen BK3.out 0; have hq5_5 : w5.cell? ⟨g5, 0, none⟩ = some (.int .i64 a) := (blk_cell BK5.out 0).trans rfl; have hz5_5 := blk_frozen BK5.out 0) | (go_at_call 72; (with_reducible refine (impl_areWatched.calls k _ _ m _ _ l true _ ?s1 ?s2 ?s3 ?s4 HA1.out).mono ?_); (case s1 => exact Kd.C_below HR0.out (bb HB)); (case s2 => exact HC0.out); (case s3 => exact Kd.C_below HR1.out (bb HB)); (case s4 => exact HC1.out); rintro e wa ⟨rfl, hb⟩; replace BK3 := b2 hb BK3; replace BK5 := b2 hb BK5; replace HB := am (below_step (bb HB) hb); clear hb; have hcwa_3 : wa.cell? ⟨g3, 0, none⟩ = some (.slice A0 m.length c0) := (blk_cell BK3.out 0).trans rfl; have hdwa_3 := blk_frozen BK3.out 0; have hcwa_5 : wa.cell? ⟨g5, 0, none⟩ = some (.int .i64 a) := (blk_cell BK5.out 0).trans rfl; have hdwa_5 := blk_frozen BK5.out 0) | (go_at_call 73; (with_reducible refine (impl_Memory_hasArray.calls _ _ m a false _ ?s1 ?s2 HA2.out).mono ?_); (case s1 => exact Kd.C_below HR0.out (bb HB)); (case s2 => exact HC0.out); rintro e wh ⟨rfl, hb⟩; replace BK3 := b2 hb BK3; replace BK5 := b2 hb BK5; replace HB := am (below_step (bb HB) hb); clear hb))
 go_ret2
 exact ⟨rfl, bb HB⟩
set_option maxHeartbeats 4000000 in
set_option maxRecDepth 100000 in
theorem counts_yes (k : Nat) (A0 : Option Addr) (c0 : Nat) (m : List (List Int)) (A1 : Option Addr) (c1 : Nat) (l : List S28) (a : Int) (w : World) (hr0 : Kd.C (Kd.slice 5 (Kd.int .u8)) w A0 m.length m) (hc0 : m.length ≤ c0) (hr1 : Kd.C k28 w A1 l.length l) (hc1 : l.length ≤ c1) (h1 : impl_areWatched.f k m l = some true) (h2 : impl_Memory_hasArray.f m a = some true) (ha0 : 0 ≤ a) (ha1 : a < (m.length : Int)) (hlen : l.length ≤ 1048576) (hn : (rd_L1 m a).length ≤ 1048576) :
    Calls Tryd.prog 16 #[.agg #[.slice A0 m.length c0], .slice A1 l.length c1, .int .i64 a] w fun e w' => ∃ v0_ : Value, e = .returned (.tuple #[v0_, .bool true]) ∧ Kd.R (Kd.int .i64) 3 w' w.heap.size (fun _ => True) v0_ (countsL m l a (rd_L1 m a).length) ∧ Below w.heap.size w w' := by
 have hu := Tryd.underlying26
 obtain ⟨n, hN⟩ : ∃ n, n = (rd_L1 m a).length := ⟨_, rfl⟩
 rw [← hN] at hn ⊢
 obtain ⟨ad1, A2, c2, e1, hx1, hl1, hi1⟩ := at_L1 hr0 a ha0 ha1
 cases e1
 rw [← hN] at hx1
 have HX1 := Aside0.mk hx1
 clear hN hx1 hl1 hi1
 have HR0 := Aside0.mk hr0
 have HC0 := Aside0.mk hc0
 have HR1 := Aside0.mk hr1
 have HC1 := Aside0.mk hc1
 clear hr0 hc0 hr1 hc1
 have HB := Aside0.mk (Below.refl w.heap.size w)
 have HA1 := Aside0.mk h1
 have HA2 := Aside0.mk h2
 have HP0 := Aside0.mk ha0
 have HP1 := Aside0.mk ha1
 have HL := Aside0.mk hlen
 have p0 : decide (0 ≤ a) = true := decide_eq_true ha0
 have p1 : decide (a < (m.length : Int)) = true := decide_eq_true ha1
 replace ha0 := eq_true ha0
 replace ha1 := eq_true ha1
 clear h1 h2 hlen
 have eg := enters_of Tryd.func75 (by kernel_rfl) rfl
 obtain ⟨y0, hy0⟩ : ∃ y_ : List Int, y_ = ([] : List Int) := ⟨_, rfl⟩
 have Ny0 := Aside0.mk hy0
 clear hy0
 go_enter Tryd.func16, Tryd.ntmps16
 go_wp2_with (first | ((with_reducible refine gate_dst (N := 3) rfl ?_); refine box_event ?hg (N := 3) ?hd (cs := #[.slice (some ad1) m.length c0]) (t := 26) ?hr ?_; (case hd => rfl); (case hg => rfl); (case hr => first | (go_simp; done) | (go_simp; rfl)); intro g3 hg w3 hbox hb; have n0_ := Aside0.mk (below_step (by repeat (first | (with_reducible first | apply below_alloc | apply pw_below_drewN | apply below_drew1) | exact HB.out)) hb); have n1_ := Aside0.mk ((by rw [hg]; exact below_size (by repeat (first | (with_reducible first | apply below_alloc | apply pw_below_drewN | apply below_drew1) | exact HB.out)) : w.heap.size ≤ g3)); have n2_ := Aside0.mk (hbox); clear HB; have HB := n0_; have GE3 := n1_; have BK3 := n2_; clear n0_ n1_ n2_; clear hb hbox hg) | ((with_reducible refine gate_dst (N := 5) rfl ?_); refine box_event ?hg (N := 5) ?hd (cs := #[.int .i64 a]) (t := 3) ?hr ?_; (case hd => rfl); (case hg => rfl); (case hr => first | (go_simp; done) | (go_simp; rfl)); intro g5 hg w5 hbox hb; have n0_ := Aside0.mk (blk_below (g := g3) (o := .cells #[.slice (some ad1) m.length c0] 26 (0, 0)) (by (with_reducible repeat (first | apply blk_drewN | apply blk_drew | apply blk_alloc)); exact BK3.out) hb); have n1_ := Aside0.mk (below_step (by repeat (first | (with_reducible first | apply below_alloc | apply pw_below_drewN | apply below_drew1) | exact HB.out)) hb); have n2_ := Aside0.mk ((by rw [hg]; exact below_size (by repeat (first | (with_reducible first | apply below_alloc | apply pw_below_drewN | apply below_drew1) | exact HB.out)) : w.heap.size ≤ g5)); have n3_ := Aside0.mk (hbox); have n4_ := Aside0.mk ((by rw [hg]; exact Nat.ne_of_lt (blk_lt (g := g3) (o := .cells #[.slice (some ad1) m.length c0] 26 (0, 0)) (by (with_reducible repeat (first | apply blk_drewN | apply blk_drew | apply blk_alloc)); exact BK3.out)) : g3 ≠ g5)); clear BK3 HB; have BK3 := n0_; have HB := n1_; have GE5 := n2_; have BK5 := n3_; have NB3_5 := n4_; clear n0_ n1_ n2_ n3_ n4_; clear hb hbox hg; have hq5_3 : w5.cell? ⟨g3, 0, none⟩ = some (.slice (some ad1) m.length c0) := (blk_cell BK3.out 0).trans rfl; have hz5_3 := blk_frozen BK3.out 0; have hq5_5 : w5.cell? ⟨g5, 0, none⟩ = some (.int .i64 a) := (blk_cell BK5.out 0).trans rfl; have hz5_5 := blk_frozen BK5.out 0) | (go_at_call 72; (with_reducible refine (impl_areWatched.calls k _ _ m _ _ l true _ ?s1 ?s2 ?s3 ?s4 HA1.out).mono ?_); (case s1 => exact Kd.C_below HR0.out (by repeat (first | (with_reducible first | apply below_alloc | apply pw_below_drewN | apply below_drew1) | exact HB.out))); (case s2 => exact HC0.out); (case s3 => exact Kd.C_below HR1.out (by repeat (first | (with_reducible first | apply below_alloc | apply pw_below_drewN | apply below_drew1) | exact HB.out))); (case s4 => exact HC1.out); rintro e wa ⟨rfl, hb⟩; have n0_ := Aside0.mk (blk_below (g := g3) (o := .cells #[.slice (some ad1) m.length c0] 26 (0, 0)) (by (with_reducible repeat (first | apply blk_drewN | apply blk_drew | apply blk_alloc)); exact BK3.out) hb); have n1_ := Aside0.mk (blk_below (g := g5) (o := .cells #[.int .i64 a] 3 (0, 0)) (by (with_reducible repeat (first | apply blk_drewN | apply blk_drew | apply blk_alloc)); exact BK5.out) hb); have n2_ := Aside0.mk (below_step (by repeat (first | (with_reducible first | apply below_alloc | apply pw_below_drewN | apply below_drew1) | exact HB.out)) hb); clear BK3 BK5 HB; have BK3 := n0_; have BK5 := n1_; have HB := n2_; clear n0_ n1_ n2_ hb; have hcwa_3 : wa.cell? ⟨g3, 0, none⟩ = some (.slice (some ad1) m.length c0) := (blk_cell BK3.out 0).trans rfl; have hdwa_3 := blk_frozen BK3.out 0; have hcwa_5 : wa.cell? ⟨g5, 0, none⟩ = some (.int .i64 a) := (blk_cell BK5.out 0).trans rfl; have hdwa_5 := blk_frozen BK5.out 0) | (go_at_call 73; (with_reducible refine (impl_Memory_hasArray.calls _ _ m a true _ ?s1 ?s2 HA2.out).mono ?_); (case s1 => exact Kd.C_below HR0.out (by repeat (first | (with_reducible first | apply below_alloc | apply pw_below_drewN | apply below_drew1) | exact HB.out))); (case s2 => exact HC0.out); rintro e wh ⟨rfl, hb⟩; have n0_ := Aside0.mk (blk_below (g := g3) (o := .cells #[.slice (some ad1) m.length c0] 26 (0, 0)) (by (with_reducible repeat (first | apply blk_drewN | apply blk_drew | apply blk_alloc)); exact BK3.out) hb); have n1_ := Aside0.mk (blk_below (g := g5) (o := .cells #[.int .i64 a] 3 (0, 0)) (by (with_reducible repeat (first | apply blk_drewN | apply blk_drew | apply blk_alloc)); exact BK5.out) hb); have n2_ := Aside0.mk (below_step (by repeat (first | (with_reducible first | apply below_alloc | apply pw_below_drewN | apply below_drew1) | exact HB.out)) hb); clear BK3 BK5 HB; have BK3 := n0_; have BK5 := n1_; have HB := n2_; clear n0_ n1_ n2_ hb; have hcwh_3 : wh.cell? ⟨g3, 0, none⟩ = some (.slice (some ad1) m.length c0) := (blk_cell BK3.out 0).trans rfl; have hdwh_3 := blk_frozen BK3.out 0; have hcwh_5 : wh.cell? ⟨g5, 0, none⟩ = some (.int .i64 a) := (blk_cell BK5.out 0).trans rfl; have hdwh_5 := blk_frozen BK5.out 0) | ((with_reducible refine gate_dst (N := 20) rfl ?_); refine Kd.R_lit (Kd.int .i64) _ 3 ?hg (N := 20) ?hd (xs := ([] : List Int)) (inner := []) (ok := fun _ => True) (okp := fun _ => True) ?hr ?hp (fun _ hk => hk) trivial (Below.refl _ _) (Nat.le_refl _) (by simp) ?_; (case hd => rfl); (case hg => rfl); (case hr => first | (go_simp; done) | (go_simp; rfl)); (case hp => exact (Reps.none _ _)); intro v20 w20 ho hb hg_ hnew_; clear hg_ hnew_; (first | rw [← Ny0.out] at ho | (simp only [Int.reduceToNat] at ho; rw [← Ny0.out] at ho)); have n0_ := Aside0.mk (Kd.R_mono (Kd.R_lower (Kd.R_bound ho) (below_size (by repeat (first | (with_reducible first | apply below_alloc | apply pw_below_drewN | apply below_drew1) | exact HB.out)))) (ok' := fun k_ => k_ ≠ g5) (fun k_ hk_ e_ => by have h1_ := blk_lt BK5.out; have h2_ : wh.heap.size ≤ k_ := hk_.2.1; omega)); have n1_ := Aside0.mk (blk_below (g := g3) (o := .cells #[.slice (some ad1) m.length c0] 26 (0, 0)) (by (with_reducible repeat (first | apply blk_drewN | apply blk_drew | apply blk_alloc)); exact BK3.out) hb); have n2_ := Aside0.mk (blk_below (g := g5) (o := .cells #[.int .i64 a] 3 (0, 0)) (by (with_reducible repeat (first | apply blk_drewN | apply blk_drew | apply blk_alloc)); exact BK5.out) hb); have n3_ := Aside0.mk (below_step (by repeat (first | (with_reducible first | apply below_alloc | apply pw_below_drewN | apply below_drew1) | exact HB.out)) hb); clear HB BK3 BK5; have HO := n0_; have BK3 := n1_; have BK5 := n2_; have HB := n3_; clear n0_ n1_ n2_ n3_; clear hb ho; have hc20_3 : w20.cell? ⟨g3, 0, none⟩ = some (.slice (some ad1) m.length c0) := (blk_cell BK3.out 0).trans rfl; have hd20_3 := blk_frozen BK3.out 0; have hc20_5 : w20.cell? ⟨g5, 0, none⟩ = some (.int .i64 a) := (blk_cell BK5.out 0).trans rfl; have hd20_5 := blk_frozen BK5.out 0; have hx1 := pw_cell_below HB.out HX1.out))
 go_loopg [8, 27] n (fun gg s8 s27 wr => ∃ kk : Nat, kk ≤ n ∧ n - kk ≤ gg ∧ s27 = .int .i64 kk ∧ Aside0 (Below w.heap.size w wr) ∧ Aside0 (wr.heap[g3]? = some (.cells #[.slice (some ad1) m.length c0] 26 (0, 0))) ∧ Aside0 (wr.heap[g5]? = some (.cells #[.int .i64 a] 3 (0, 0))) ∧ Aside0 (Kd.R (Kd.int .i64) 3 wr w.heap.size (fun k_ => k_ ≠ g5) s8 (countsL m l a kk)))
 case atStart => exact ⟨0, Nat.zero_le _, by omega, rfl, ⟨by repeat (first | (with_reducible first | apply below_alloc | apply pw_below_drewN | apply below_drew1) | exact HB.out)⟩, ⟨by (with_reducible repeat (first | apply blk_drewN | apply blk_drew | apply blk_alloc)); exact BK3.out⟩, ⟨by (with_reducible repeat (first | apply blk_drewN | apply blk_drew | apply blk_alloc)); exact BK5.out⟩, ⟨by rw [show countsL m l a 0 = y0 from (by rw [Ny0.out]; rfl)]; (with_reducible repeat (first | apply Kd.R_alloc | apply Kd.R_drewN | apply Kd.R_drew)); exact HO.out⟩⟩
 case round =>
  clear HB BK3 BK5 HO Ny0
  obtain ⟨kk, hkk, hg, rfl, HB, BK3, BK5, HO⟩ := hrel
  by_cases hlt : kk < n
  ·have hltz : (kk : Int) < (n : Int) := by omega
   go_wp2_with (first | ((with_reducible refine gate_dst (N := 9) rfl ?_); refine box_event ?hg (N := 9) ?hd (cs := #[.int .i64 0]) (t := 3) ?hr ?_; (case hd => rfl); (case hg => rfl); (case hr => first | (go_simp; done) | (go_simp; rfl)); intro g9 hg w9 hbox hb; have n0_ := Aside0.mk (blk_below (g := g3) (o := .cells #[.slice (some ad1) m.length c0] 26 (0, 0)) (by (with_reducible repeat (first | apply blk_drewN | apply blk_drew | apply blk_alloc)); exact BK3.out) hb); have n1_ := Aside0.mk (blk_below (g := g5) (o := .cells #[.int .i64 a] 3 (0, 0)) (by (with_reducible repeat (first | apply blk_drewN | apply blk_drew | apply blk_alloc)); exact BK5.out) hb); have n2_ := Aside0.mk (by rw [hg]; exact Nat.ne_of_lt (blk_lt (g := g3) (o := .cells #[.slice (some ad1) m.length c0] 26 (0, 0)) (by (with_reducible repeat (first | apply blk_drewN | apply blk_drew | apply blk_alloc)); exact BK3.out)) : g3 ≠ g9); have n3_ := Aside0.mk (by rw [hg]; exact Nat.ne_of_lt (blk_lt (g := g5) (o := .cells #[.int .i64 a] 3 (0, 0)) (by (with_reducible repeat (first | apply blk_drewN | apply blk_drew | apply blk_alloc)); exact BK5.out)) : g5 ≠ g9); have n4_ := Aside0.mk (Kd.R_below (Kd.R_mono (Kd.R_bound (by (with_reducible repeat (first | apply Kd.R_alloc | apply Kd.R_drewN | apply Kd.R_drew)); exact HO.out)) (ok' := fun k_ => k_ ≠ g5 ∧ k_ ≠ g9) (fun k_ hk_ => ⟨hk_.1, fun e_ => by have := hk_.2.2.1; rw [hg] at e_; omega⟩)) hb); have n5_ := Aside0.mk (by rw [hg]; exact below_size (by repeat (first | (with_reducible first | apply below_alloc | apply pw_below_drewN | apply below_drew1) | exact HB.out)) : w.heap.size ≤ g9); have n6_ := Aside0.mk (below_step (by repeat (first | (with_reducible first | apply below_alloc | apply pw_below_drewN | apply below_drew1) | exact HB.out)) hb); have n7_ := Aside0.mk hbox; clear BK3 BK5 HO HB; have BK3 := n0_; have BK5 := n1_; have NB3_9 := n2_; have NB5_9 := n3_; have HO := n4_; have GE9 := n5_; have HB := n6_; have BK9 := n7_; clear n0_ n1_ n2_ n3_ n4_ n5_ n6_ n7_ hb hbox hg; have hq9 : w9.cell? ⟨g9, 0, none⟩ = some (.int .i64 0) := (blk_cell BK9.out 0).trans rfl; have hz9 := blk_frozen BK9.out 0) | (go_at_call 74; (refine (numbersOf.calls 75 #[.pointer (some ⟨g5, 0, none⟩), .pointer (some ⟨g9, 0, none⟩)] (fun _ x => seesB x a (kk : Int)) _ _ l _ eg ?s1 ?s2 HL.out).mono ?_); (case s1 => exact (fun W i x _ hW => noticed2.calls g5 g9 a (kk : Int) i x W (blk_below (by refine blk_far ?_ NB5_9.out _; exact BK5.out) hW) (blk_below (by refine blk_put (cs := #[.int .i64 0]) BK9.out 0 _ rfl) hW))); (case s2 => exact Kd.C_below HR1.out (by repeat (first | (with_reducible first | apply below_alloc | apply pw_below_drewN | apply below_drew1 | refine below_set ?_ GE9.out) | exact HB.out))); rintro e wn ⟨vn, rfl, hon, hb⟩; have n0_ := Aside0.mk (blk_below (g := g3) (o := .cells #[.slice (some ad1) m.length c0] 26 (0, 0)) (by refine blk_far ?_ NB3_9.out _; exact BK3.out) hb); have n1_ := Aside0.mk (blk_below (g := g5) (o := .cells #[.int .i64 a] 3 (0, 0)) (by refine blk_far ?_ NB5_9.out _; exact BK5.out) hb); have n2_ := Aside0.mk (Kd.R_below (Kd.R_far (p := ⟨g9, 0, none⟩) HO.out (fun k_ hk_ => hk_.2) _) hb); have n3_ := Aside0.mk (below_step (by repeat (first | (with_reducible first | apply below_alloc | apply pw_below_drewN | apply below_drew1 | refine below_set ?_ GE9.out) | exact HB.out)) hb); have n4_ := Aside0.mk (Nat.lt_of_lt_of_le (by simpa using blk_lt BK9.out) hb.size : g9 < wn.heap.size); clear BK3 BK5 HO HB; have BK3 := n0_; have BK5 := n1_; have HO := n2_; have HB := n3_; have LT9 := n4_; clear n0_ n1_ n2_ n3_ n4_ hb; obtain ⟨An, cn, en⟩ := Kd.R_slice hon; subst en; clear hon) | ((with_reducible refine gate_builtin (b := .append) (xs := #[.tmp 30, .tmp 35]) rfl ?_); at_builtin; refine Kd.R_append (Kd.int .i64) (w0 := w) w.heap.size rfl (.tmp 30) (.tmp 35) 39 3 (.int .i64 0) 8 rfl Tryd.underlying39 info3 rfl (by decide) (by omega) u8 (countsL m l a kk) ((numsF (fun _ x => seesB x a (kk : Int)) l 0).length : Int) [.int .i64 ((numsF (fun _ x => seesB x a (kk : Int)) l 0).length : Int)] (fun k_ => k_ ≠ g5) (fun _ => False) rfl rfl ?aP (fun _ hk => hk.elim) ?aF ?aO ?aB ?aS ?aL ?_; (case aP => exact rfl); (case aB => exact (by repeat (first | (with_reducible first | apply below_alloc | apply pw_below_drewN | apply below_drew1) | exact HB.out))); (case aF => exact (fun k_ hk_ e_ => by have := blk_lt BK5.out; omega)); (case aO => exact Kd.R_mono HO.out (fun k_ hk_ => hk_.1)); (case aS => exact (below_size (by repeat (first | (with_reducible first | apply below_alloc | apply pw_below_drewN | apply below_drew1) | exact HB.out)))); (case aL => have := countsL_len m l a kk; omega); intro v36 w36 ho hb hg hat; rw [← countsL_succ] at ho; have n0_ := Aside0.mk (blk_grown BK3.out hg (fun e_ => Kd.R_ne HO.out BK3.out (by decide) e_)); have n1_ := Aside0.mk (blk_grown BK5.out hg (fun e_ => (HO.out.1 g5 e_.symm).1 rfl)); have n2_ := Aside0.mk hb; have n3_ := Aside0.mk ho; clear BK3 BK5 HB HO; have BK3 := n0_; have BK5 := n1_; have HB := n2_; have HO := n3_; clear n0_ n1_ n2_ n3_ ho hb hg hat))
   go_roundg (n - (kk + 1))
   case measure => omega
   case rel => exact ⟨kk + 1, by omega, by omega, by go_num, ⟨by repeat (first | (with_reducible first | apply below_alloc | apply pw_below_drewN | apply below_drew1) | exact HB.out)⟩, ⟨by (with_reducible repeat (first | apply blk_drewN | apply blk_drew | apply blk_alloc)); exact BK3.out⟩, ⟨by (with_reducible repeat (first | apply blk_drewN | apply blk_drew | apply blk_alloc)); exact BK5.out⟩, ⟨by (with_reducible repeat (first | apply Kd.R_alloc | apply Kd.R_drewN | apply Kd.R_drew)); exact HO.out⟩⟩
  ·have hltz : ¬ (kk : Int) < (n : Int) := by omega
   obtain rfl : kk = n := by omega
   go_wp2
   go_ret2
   exact ⟨_, rfl, Kd.R_mono (by (with_reducible repeat (first | apply Kd.R_alloc | apply Kd.R_drewN | apply Kd.R_drew)); exact HO.out) (fun _ _ => trivial), by repeat (first | (with_reducible first | apply below_alloc | apply pw_below_drewN | apply below_drew1) | exact HB.out)⟩
def impl_NoticedCounts.f (k : Nat) (m : List (List Int)) (l : List S28) (a : Int) : Option (List Int × Bool) :=
  (impl_areWatched.f k m l).bind fun t => if t = true then ((impl_Memory_hasArray.f m a).bind fun h => if h = true then (if 0 ≤ a then (if a < (m.length : Int) then (if l.length ≤ 1048576 then (if (rd_L1 m a).length ≤ 1048576 then some (countsL m l a (rd_L1 m a).length, true) else none) else none) else none) else none) else some ([], false)) else some ([], false)
theorem impl_NoticedCounts.calls (k : Nat) (A0 : Option Addr) (c0 : Nat) (m : List (List Int)) (A1 : Option Addr) (c1 : Nat) (l : List S28) (a : Int) (r1 : List Int) (r2 : Bool) (w : World) (hr0 : Kd.C (Kd.slice 5 (Kd.int .u8)) w A0 m.length m) (hc0 : m.length ≤ c0) (hr1 : Kd.C k28 w A1 l.length l) (hc1 : l.length ≤ c1) (h : impl_NoticedCounts.f k m l a = some (r1, r2)) :
    Calls Tryd.prog 16 #[.agg #[.slice A0 m.length c0], .slice A1 l.length c1, .int .i64 a] w fun e w' => ∃ v0_ : Value, e = .returned (.tuple #[v0_, .bool r2]) ∧ Kd.R (Kd.int .i64) 3 w' w.heap.size (fun _ => True) v0_ r1 ∧ Below w.heap.size w w' := by
  unfold impl_NoticedCounts.f at h
  obtain ⟨t, h1, h⟩ := Option.bind_eq_some_iff.mp h
  cases t with
  | false =>
    rw [if_neg (by decide)] at h
    obtain ⟨rfl, rfl⟩ := Prod.mk.inj (Option.some.inj h)
    exact (counts_no1 k A0 c0 m A1 c1 l a w hr0 hc0 hr1 hc1 h1).mono fun e w' ⟨he, hb⟩ => ⟨_, he, Kd.R_nil _ _ _ _ _, hb⟩
  | true =>
    rw [if_pos rfl] at h
    obtain ⟨t, h2, h⟩ := Option.bind_eq_some_iff.mp h
    cases t with
    | false =>
      rw [if_neg (by decide)] at h
      obtain ⟨rfl, rfl⟩ := Prod.mk.inj (Option.some.inj h)
      exact (counts_no2 k A0 c0 m A1 c1 l a w hr0 hc0 hr1 hc1 h1 h2).mono fun e w' ⟨he, hb⟩ => ⟨_, he, Kd.R_nil _ _ _ _ _, hb⟩
    | true =>
      rw [if_pos rfl] at h
      by_cases h3 : 0 ≤ a
      · rw [if_pos h3] at h
        by_cases h4 : a < (m.length : Int)
        · rw [if_pos h4] at h
          by_cases h5 : l.length ≤ 1048576
          · rw [if_pos h5] at h
            by_cases h6 : (rd_L1 m a).length ≤ 1048576
            · rw [if_pos h6] at h
              obtain ⟨rfl, rfl⟩ := Prod.mk.inj (Option.some.inj h)
              exact counts_yes k A0 c0 m A1 c1 l a w hr0 hc0 hr1 hc1 h1 h2 h3 h4 h5 h6
            · rw [if_neg h6] at h; cases h
          · rw [if_neg h5] at h; cases h
        · rw [if_neg h4] at h; cases h
      · rw [if_neg h3] at h; cases h
def covStep (c : List Int) (p : Nat) (o : List (Int × Int)) : List (Int × Int) :=
  if c.getD p 0 = 0 then o else if 0 < p ∧ 0 < c.getD (p - 1) 0 then o.set (o.length - 1) ((o.getD (o.length - 1) (0, 0)).1, (p : Int)) else o ++ [((p : Int), (p : Int))]
def covN (c : List Int) : Nat → List (Int × Int)
  | 0 => []
  | n + 1 => covStep c n (covN c n)
theorem covStep_len (c : List Int) (p : Nat) (o : List (Int × Int)) : o.length ≤ (covStep c p o).length ∧ (covStep c p o).length ≤ o.length + 1 := by
  unfold covStep
  split
  · omega
  · split
    · rw [List.length_set]; omega
    · rw [List.length_append, List.length_singleton]; omega
theorem covN_len (c : List Int) : ∀ n, (covN c n).length ≤ n
  | 0 => by simp [covN]
  | n + 1 => by have := covN_len c n; have := (covStep_len c n (covN c n)).2; rw [covN]; omega
theorem covN_ne (c : List Int) : ∀ n, c.getD n 0 ≠ 0 → 0 < (covN c (n + 1)).length
  | n, h => by
    rw [covN, covStep, if_neg h]
    by_cases h1 : 0 < n ∧ 0 < c.getD (n - 1) 0
    · rw [if_pos h1, List.length_set]
      obtain ⟨m, rfl⟩ : ∃ m, n = m + 1 := ⟨n - 1, by omega⟩
      exact covN_ne c m (by have := h1.2; simp only [Nat.add_sub_cancel] at this; omega)
    · rw [if_neg h1, List.length_append, List.length_singleton]; omega
theorem covN_zero {c : List Int} {n : Nat} (h : c.getD n 0 = 0) : covN c (n + 1) = covN c n := by rw [covN, covStep, if_pos h]
theorem covN_set {c : List Int} {n : Nat} (h : c.getD n 0 ≠ 0) (h1 : 0 < n) (h2 : 0 < c.getD (n - 1) 0) : covN c (n + 1) = (covN c n).set ((covN c n).length - 1) ((rd_A2 (covN c n) (((covN c n).length : Int) - 1)).1, (n : Int)) := by
  rw [covN, covStep, if_neg h, if_pos ⟨h1, h2⟩, rd_A2]
  congr 4
  omega
theorem covN_app {c : List Int} {n : Nat} (h : c.getD n 0 ≠ 0) (h1 : ¬ (0 < n ∧ 0 < c.getD (n - 1) 0)) : covN c (n + 1) = covN c n ++ [((n : Int), (n : Int))] := by
  rw [covN, covStep, if_neg h, if_neg h1]
set_option maxHeartbeats 2000000 in
set_option maxRecDepth 100000 in
theorem cover_no (k : Nat) (A0 : Option Addr) (c0 : Nat) (m : List (List Int)) (A1 : Option Addr) (c1 : Nat) (l : List S28) (a : Int) (g : List Int) (w : World) (hr0 : Kd.C (Kd.slice 5 (Kd.int .u8)) w A0 m.length m) (hc0 : m.length ≤ c0) (hr1 : Kd.C k28 w A1 l.length l) (hc1 : l.length ≤ c1) (h1 : impl_NoticedCounts.f k m l a = some (g, false)) :
    Calls Tryd.prog 18 #[.agg #[.slice A0 m.length c0], .slice A1 l.length c1, .int .i64 a] w fun e w' => e = .returned (.tuple #[.slice none 0 0, .bool false]) ∧ Below w.heap.size w w' := by
 have hu := Tryd.underlying26
 have HR0 := Aside0.mk hr0
 have HC0 := Aside0.mk hc0
 have HR1 := Aside0.mk hr1
 have HC1 := Aside0.mk hc1
 have HA1 := Aside0.mk h1
 clear hr0 hc0 hr1 hc1 h1
 have HB := Aside0.mk (Below.refl w.heap.size w)
 go_enter Tryd.func18, Tryd.ntmps18
 go_wp2_with (first | ((with_reducible refine gate_dst (N := 3) rfl ?_); refine box_event ?hg (N := 3) ?hd (cs := #[.slice A0 m.length c0]) (t := 26) ?hr ?_; (case hd => rfl); (case hg => rfl); (case hr => first | (go_simp; done) | (go_simp; rfl)); intro g3 hg w3 hbox hb; have n0_ := Aside0.mk (below_step HB.out hb); have n1_ := Aside0.mk hbox; clear HB; have HB := n0_; have BK3 := n1_; clear n0_ n1_ hb hbox hg; have hc3 : w3.cell? ⟨g3, 0, none⟩ = some (.slice A0 m.length c0) := (blk_cell BK3.out 0).trans rfl; have hf3 := blk_frozen BK3.out 0) | (go_at_call 16; (with_reducible refine (impl_NoticedCounts.calls k _ _ m _ _ l a g false _ ?s1 ?s2 ?s3 ?s4 HA1.out).mono ?_); (case s1 => exact Kd.C_below HR0.out (by repeat (first | (with_reducible first | apply below_alloc | apply pw_below_drewN | apply below_drew1) | exact HB.out))); (case s2 => exact HC0.out); (case s3 => exact Kd.C_below HR1.out (by repeat (first | (with_reducible first | apply below_alloc | apply pw_below_drewN | apply below_drew1) | exact HB.out))); (case s4 => exact HC1.out); rintro e wc ⟨vc, rfl, hoc, hb⟩; have n0_ := Aside0.mk (below_step (by repeat (first | (with_reducible first | apply below_alloc | apply pw_below_drewN | apply below_drew1) | exact HB.out)) hb); clear HB; have HB := n0_; clear n0_ hb hoc))
 go_ret2
 exact ⟨rfl, by repeat (first | (with_reducible first | apply below_alloc | apply pw_below_drewN | apply below_drew1) | exact HB.out)⟩
end Go.Proofs.YthnchjgffocigaaDoor.P
end
section
namespace Go.Proofs.YthnchjgffocigaaDoor.P
open Go.RowKit Go.Proofs.YthnchjgffocigaaDoorW.PrintWords Go.Proofs.YthnchjgffocigaaDoorW.PrintLast Go.Proofs.YthnchjgffocigaaDoorW.PrintMore
theorem sz_alloc {n : Nat} {w : World} (h : n ≤ w.heap.size) (o : Obj) : n ≤ (w.alloc o).heap.size := Nat.le_trans h (Below.refl w.heap.size w |> fun r => (below_alloc r o).size)
theorem sz_drewN {n : Nat} {w : World} (h : n ≤ w.heap.size) (m : Nat) : n ≤ (w.drewN m).heap.size := h
theorem sz_drew {n : Nat} {w : World} (h : n ≤ w.heap.size) : n ≤ w.drew.heap.size := h
theorem sz_set {n : Nat} {w : World} (h : n ≤ w.heap.size) {p : Addr} {v : Value} : n ≤ (w.setCell p v).heap.size := Nat.le_trans h (Nat.le_of_eq (by simp))
end Go.Proofs.YthnchjgffocigaaDoor.P
end
section
namespace Go.Proofs.YthnchjgffocigaaDoor.P
open Go.RowKit Go.Proofs.YthnchjgffocigaaDoorW.PrintWords Go.Proofs.YthnchjgffocigaaDoorW.PrintLast Go.Proofs.YthnchjgffocigaaDoorW.PrintMore
set_option linter.unusedVariables false
set_option linter.unusedSimpArgs false
set_option maxHeartbeats 8000000 in
set_option maxRecDepth 100000 in
theorem cover_yes (k : Nat) (A0 : Option Addr) (c0 : Nat) (m : List (List Int)) (A1 : Option Addr) (c1 : Nat) (l : List S28) (a : Int) (g : List Int) (w : World) (hr0 : Kd.C (Kd.slice 5 (Kd.int .u8)) w A0 m.length m) (hc0 : m.length ≤ c0) (hr1 : Kd.C k28 w A1 l.length l) (hc1 : l.length ≤ c1) (h1 : impl_NoticedCounts.f k m l a = some (g, true)) (hg1 : g.length ≤ 1048576) :
    Calls Tryd.prog 18 #[.agg #[.slice A0 m.length c0], .slice A1 l.length c1, .int .i64 a] w fun e w' => ∃ v0_ : Value, e = .returned (.tuple #[v0_, .bool true]) ∧ Kd.R kA2 53 w' w.heap.size (fun _ => True) v0_ (covN g g.length) ∧ Below w.heap.size w w' := by
 have hu := Tryd.underlying26
 have hu2 := Tryd.underlying53
 have HR0 := am hr0
 have HC0 := am hc0
 have HR1 := am hr1
 have HC1 := am hc1
 have HA1 := am h1
 have HM := am hg1
 clear hr0 hc0 hr1 hc1 h1 hg1
 have HB := am (Below.refl w.heap.size w)
 obtain ⟨n1, hn1⟩ : ∃ n1, n1 = 0 := ⟨_, rfl⟩
 have HN1 := am hn1
 clear hn1
 go_enter Tryd.func18, Tryd.ntmps18
 go_wp2_with (first | ((with_reducible refine gate_dst (N := 3) rfl ?_); refine bE 3 #[.slice A0 m.length c0] 26 ?_; intro g3 hg w3 hbox hb; replace HB := am (below_step HB.out hb); have BK3 := am hbox; clear hb hbox hg; have hc3 : w3.cell? ⟨g3, 0, none⟩ = some (.slice A0 m.length c0) := (blk_cell BK3.out 0).trans rfl; have hf3 := blk_frozen BK3.out 0) | (go_at_call 16; (with_reducible refine (impl_NoticedCounts.calls k _ _ m _ _ l a g true _ ?s1 ?s2 ?s3 ?s4 HA1.out).mono ?_); (case s1 => exact Kd.C_below HR0.out (bb HB)); (case s2 => exact HC0.out); (case s3 => exact Kd.C_below HR1.out (bb HB)); (case s4 => exact HC1.out); rintro e wc ⟨vc, rfl, hoc, hb⟩; obtain ⟨n2, hn2⟩ : ∃ n2, n2 = wc.heap.size := ⟨_, rfl⟩; have HG := am (show Kd.R (Kd.int .i64) 3 wc w.heap.size (fun k => n1 ≤ k ∧ k < n2) vc g from Kd.R_mono (Kd.R_lower (Kd.R_bound hoc) (below_size (bb HB))) (fun k hk => ⟨by have := HN1.out; omega, by rw [hn2]; exact hk.2.2.1⟩)); replace HB := am (below_step (bb HB) hb); have HZ := am (Nat.le_of_eq hn2); clear hb hoc hn2; obtain ⟨Ac, cc, ec⟩ := Kd.R_slice HG.out; subst ec) | ((with_reducible refine gate_dst (N := 22) rfl ?_); refine Kd.R_lit kA2 _ 53 ?hg (N := 22) ?hd (xs := ([] : List (Int × Int))) (inner := []) (ok := fun _ => True) (okp := fun _ => True) ?hr ?hp (fun _ hk => hk) trivial (Below.refl _ _) (Nat.le_refl _) (by simp) ?_; (case hd => rfl); (case hg => rfl); (case hr => first | (go_simp; done) | (go_simp; rfl)); (case hp => exact (Reps.none _ _)); intro v22 w22 ho hb hg_ hnew_; clear hg_ hnew_; have HO := am (show Kd.R kA2 53 w22 w.heap.size (fun k_ => ¬ (n1 ≤ k_ ∧ k_ < n2)) v22 (covN g 0) from Kd.R_mono (Kd.R_lower (Kd.R_bound ho) (below_size (bb HB))) (fun k_ hk_ h_ => absurd (Nat.lt_of_lt_of_le h_.2 (Nat.le_trans HZ.out hk_.2.1)) (Nat.lt_irrefl _))); replace HB := am (below_step (bb HB) hb); replace HG := am (Kd.R_below HG.out hb); replace HZ := am (Nat.le_trans HZ.out hb.size); clear hb ho))
 have hn_ := HM.out
 go_loopg [10, 25] g.length (fun kq s10 s25 wr => ∃ kk : Nat, kk ≤ g.length ∧ g.length - kk ≤ kq ∧ s25 = .int .i64 (kk : Int) ∧ Aside0 (Kd.R kA2 53 wr w.heap.size (fun k_ => ¬ (n1 ≤ k_ ∧ k_ < n2)) s10 (covN g kk)) ∧ Aside0 (Kd.R (Kd.int .i64) 3 wr w.heap.size (fun k_ => n1 ≤ k_ ∧ k_ < n2) (.slice Ac g.length cc) g) ∧ Aside0 (Below w.heap.size w wr) ∧ Aside0 (n2 ≤ wr.heap.size))
 case atStart => exact ⟨0, by omega, by omega, rfl, ⟨rr HO⟩, ⟨rr HG⟩, ⟨bb HB⟩, ⟨by repeat (first | exact HZ.out | (with_reducible first | apply sz_alloc | apply sz_drewN | apply sz_drew | apply sz_set))⟩⟩
 case round =>
  clear HO HG HB HZ
  obtain ⟨kk, hkk, hkq, rfl, HO, HG, HB, HZ⟩ := hrel
  have HLg := am (covN_len g kk)
  by_cases hlt : kk < g.length
  ·have hiz : (kk : Int) < (g.length : Int) := by omega
   have h0z : 0 ≤ (kk : Int) := by omega
   have c1b := decide_eq_true hiz
   have c2b := decide_eq_true h0z
   obtain ⟨adc, eadc, hx0⟩ := Kd.at_int (Kd.R_reads' HG.out).2.2 (kk : Int) h0z (by omega)
   cases eadc
   simp only [Int.toNat_natCast] at hx0
   have erd : rd g (kk : Int) = g.getD kk 0 := rfl
   rw [erd] at hx0
   clear erd
   obtain ⟨y, hy⟩ : ∃ y, y = g.getD kk 0 := ⟨_, rfl⟩
   rw [← hy] at hx0
   have HY := am hy
   clear hy
   by_cases hz : y = 0
   ·have c3b : (y == 0) = true := beq_iff_eq.mpr hz
    have c3c : (y != 0) = false := bne_eq_false_iff_eq.mpr hz
    have E1 := am (covN_zero (c := g) (n := kk) (by rw [← HY.out]; exact hz))
    subst hz
    replace hiz := eq_true hiz
    replace h0z := eq_true h0z
    go_wp2
    go_roundg (g.length - (kk + 1))
    case measure => omega
    case rel => exact ⟨kk + 1, by omega, by omega, by go_num, ⟨by rw [E1.out]; (with_reducible repeat (first | apply Kd.R_alloc | apply Kd.R_drewN | apply Kd.R_drew)); exact HO.out⟩, ⟨rr HG⟩, ⟨bb HB⟩, ⟨by repeat (first | exact HZ.out | (with_reducible first | apply sz_alloc | apply sz_drewN | apply sz_drew | apply sz_set))⟩⟩
   ·have c3b : (y == 0) = false := beq_eq_false_iff_ne.mpr hz
    have c3c : (y != 0) = true := bne_iff_ne.mpr hz
    have HYZ := am (show g.getD kk 0 ≠ 0 by rw [← HY.out]; exact hz)
    by_cases hp : 0 < kk
    ·have c4b : decide ((kk : Int) > 0) = true := decide_eq_true (by omega)
     have c4c : decide (0 < (kk : Int)) = true := decide_eq_true (by omega)
     have c4d : decide (0 ≤ (kk : Int) - 1) = true := decide_eq_true (by omega)
     have c4e : decide ((kk : Int) - 1 < (g.length : Int)) = true := decide_eq_true (by omega)
     have e_1 : ((kk : Int) - 1).toNat = kk - 1 := by omega
     obtain ⟨adp, eadp, hp0⟩ := Kd.at_int (Kd.R_reads' HG.out).2.2 ((kk : Int) - 1) (by omega) (by omega)
     cases eadp
     have erd : rd g ((kk : Int) - 1) = g.getD (kk - 1) 0 := by unfold rd; rw [e_1]
     rw [erd, e_1] at hp0
     clear erd e_1
     obtain ⟨yp, hyp⟩ : ∃ y, y = g.getD (kk - 1) 0 := ⟨_, rfl⟩
     rw [← hyp] at hp0
     have HYP := am hyp
     clear hyp
     have ew : wrap64 ((kk : Int) - 1) = (kk : Int) - 1 := wrap_in (by omega) (by omega)
     have i0 : (0 ≤ (kk : Int) - 1) = True := eq_true (by omega)
     have i1 : ((kk : Int) - 1 < (g.length : Int)) = True := eq_true (by omega)
     by_cases hq : 0 < yp
     ·have c5b : decide (yp > 0) = true := decide_eq_true hq
      have c5c : decide (0 < yp) = true := decide_eq_true hq
      have E1 := am (covN_set (c := g) (n := kk) HYZ.out hp (by rw [← HYP.out]; exact hq))
      have hne : 0 < (covN g kk).length := by
       obtain ⟨m, rfl⟩ : ∃ m, kk = m + 1 := ⟨kk - 1, by omega⟩
       exact covN_ne g m (by have h_ := HYP.out; simp only [Nat.add_sub_cancel] at h_; omega)
      obtain ⟨gd, cap, eo, hgd, hgl, _⟩ := Kd.R_form HO.out hne
      subst eo
      have hol2 : (covN g kk).length ≤ 1048576 := by have := HLg.out; have := HM.out; omega
      have hol1 : 0 < (covN g kk).length := hne
      have GE := am hgd
      have GL := am hgl
      clear hgd hgl hne
      have d0z : 0 ≤ ((covN g kk).length : Int) - 1 := by omega
      have d1z : ((covN g kk).length : Int) - 1 < ((covN g kk).length : Int) := by omega
      obtain ⟨ce, hcl, hMe, hcc, hfr⟩ := Kd.R_elem HO.out (0, 0) (((covN g kk).length : Int) - 1) d0z d1z
      obtain rfl := kA2_openM hMe
      have et : (((covN g kk).length : Int) - 1).toNat = (covN g kk).length - 1 := by omega
      have hc0 := hcc 0 _ rfl
      have hc1 := hcc 1 _ rfl
      have hf0 := hfr 0
      have hf1 := hfr 1
      have HP := Kd.R_seg HO.out (((covN g kk).length : Int) - 1) d0z d1z (seg := [.int .i64 (kk : Int)]) (j := 1) hcl hcc (show 2 ≤ 2 from by decide) (x' := ((rd_A2 (covN g kk) (((covN g kk).length : Int) - 1)).1, (kk : Int))) (kA2_mkM _ _ _ ((rd_A2 (covN g kk) (((covN g kk).length : Int) - 1)).1, (kk : Int))) (fun _ hk => hk)
      rw [et] at HP
      replace HP := am HP
      have HGd := am (show ∀ k, (n1 ≤ k ∧ k < n2) → k ≠ gd from fun k hk e => by subst e; exact HO.out.1 k rfl hk)
      simp only [show (kA2).sz = 2 from rfl, et, Nat.add_zero] at hc0 hc1 hf0 hf1
      clear hcl hcc hfr hMe
      have ew2 : wrap64 (((covN g kk).length : Int) - 1) = ((covN g kk).length : Int) - 1 := wrap_in (by omega) (by omega)
      replace d0z := eq_true d0z
      replace d1z := eq_true d1z
      replace hiz := eq_true hiz
      replace h0z := eq_true h0z
      go_wp2
      go_roundg (g.length - (kk + 1))
      case measure => omega
      case rel => exact ⟨kk + 1, by omega, by omega, by go_num, ⟨by rw [E1.out]; rw [show (covN g kk).length - 1 = (((covN g kk).length : Int) - 1).toNat by omega]; (with_reducible repeat (first | apply Kd.R_alloc | apply Kd.R_drewN | apply Kd.R_drew)); first | exact HP.out.1 | (rw [et]; exact HP.out.1)⟩, ⟨by (with_reducible repeat (first | apply Kd.R_alloc | apply Kd.R_drewN | apply Kd.R_drew)); exact Kd.R_far (p := ⟨gd, _, none⟩) HG.out HGd.out _⟩, ⟨by first | exact below_set HB.out GE.out | (apply pw_below_drewN; exact below_set HB.out GE.out)⟩, ⟨sz_set HZ.out⟩⟩
     ·have c5b : decide (yp > 0) = false := decide_eq_false hq
      have c5c : decide (0 < yp) = false := decide_eq_false hq
      have E1 := am (covN_app (c := g) (n := kk) HYZ.out (fun h => hq (by rw [HYP.out]; exact h.2)))
      replace hiz := eq_true hiz
      replace h0z := eq_true h0z
      go_wp2_with ((with_reducible refine gate_builtin (b := .append) (xs := #[.tmp 30, .tmp 34]) rfl ?_); at_builtin; refine Kd.R_append kA2 (w0 := w) w.heap.size rfl (.tmp 30) (.tmp 34) 42 53 (.agg #[(.int .i64 0), (.int .i64 0)]) 16 rfl Tryd.underlying42 infoA2 rfl (by decide) (by omega) u10 (covN g kk) ((kk : Int), (kk : Int)) [.int .i64 (kk : Int), .int .i64 (kk : Int)] (fun k_ => ¬ (n1 ≤ k_ ∧ k_ < n2)) (fun _ => False) rfl rfl ?aP (fun _ hk => hk.elim) ?aF ?aO ?aB ?aS ?aL ?_; (case aP => exact kA2_mkM _ _ _ ((kk : Int), (kk : Int))); (case aF => exact (fun k_ hk h_ => absurd (Nat.lt_of_lt_of_le h_.2 (Nat.le_trans HZ.out hk)) (Nat.lt_irrefl _))); (case aO => exact HO.out); (case aB => exact (bb HB)); (case aS => exact (below_size (bb HB))); (case aL => have := HLg.out; have := HM.out; omega); intro v35 w35 ho hb hg hat; rw [← E1.out] at ho; replace HB := am hb; replace HG := am (Kd.R_grown HG.out hg (fun k hk e => HO.out.1 k e.symm hk)); replace HO := am ho; replace HZ := am (Nat.le_trans HZ.out hg.size); clear ho hb hg hat)
      go_roundg (g.length - (kk + 1))
      case measure => omega
      case rel => exact ⟨kk + 1, by omega, by omega, by go_num, ⟨rr HO⟩, ⟨rr HG⟩, ⟨bb HB⟩, ⟨by repeat (first | exact HZ.out | (with_reducible first | apply sz_alloc | apply sz_drewN | apply sz_drew | apply sz_set))⟩⟩
    ·have c4b : decide ((kk : Int) > 0) = false := decide_eq_false (by omega)
     have c4c : decide (0 < (kk : Int)) = false := decide_eq_false (by omega)
     have E1 := am (covN_app (c := g) (n := kk) HYZ.out (fun h => hp h.1))
     replace hiz := eq_true hiz
     replace h0z := eq_true h0z
     go_wp2_with ((with_reducible refine gate_builtin (b := .append) (xs := #[.tmp 30, .tmp 34]) rfl ?_); at_builtin; refine Kd.R_append kA2 (w0 := w) w.heap.size rfl (.tmp 30) (.tmp 34) 42 53 (.agg #[(.int .i64 0), (.int .i64 0)]) 16 rfl Tryd.underlying42 infoA2 rfl (by decide) (by omega) u10 (covN g kk) ((kk : Int), (kk : Int)) [.int .i64 (kk : Int), .int .i64 (kk : Int)] (fun k_ => ¬ (n1 ≤ k_ ∧ k_ < n2)) (fun _ => False) rfl rfl ?aP (fun _ hk => hk.elim) ?aF ?aO ?aB ?aS ?aL ?_; (case aP => exact kA2_mkM _ _ _ ((kk : Int), (kk : Int))); (case aF => exact (fun k_ hk h_ => absurd (Nat.lt_of_lt_of_le h_.2 (Nat.le_trans HZ.out hk)) (Nat.lt_irrefl _))); (case aO => exact HO.out); (case aB => exact (bb HB)); (case aS => exact (below_size (bb HB))); (case aL => have := HLg.out; have := HM.out; omega); intro v35 w35 ho hb hg hat; rw [← E1.out] at ho; replace HB := am hb; replace HG := am (Kd.R_grown HG.out hg (fun k hk e => HO.out.1 k e.symm hk)); replace HO := am ho; replace HZ := am (Nat.le_trans HZ.out hg.size); clear ho hb hg hat)
     go_roundg (g.length - (kk + 1))
     case measure => omega
     case rel => exact ⟨kk + 1, by omega, by omega, by go_num, ⟨rr HO⟩, ⟨rr HG⟩, ⟨bb HB⟩, ⟨by repeat (first | exact HZ.out | (with_reducible first | apply sz_alloc | apply sz_drewN | apply sz_drew | apply sz_set))⟩⟩
  ·obtain ekk : kk = g.length := by omega
   subst ekk
   have hiz : ¬ (g.length : Int) < (g.length : Int) := by omega
   have c1b : decide ((g.length : Int) < (g.length : Int)) = false := decide_eq_false hiz
   go_wp2
   go_ret2
   exact ⟨_, rfl, by (with_reducible repeat (first | apply Kd.R_alloc | apply Kd.R_drewN | apply Kd.R_drew)); exact Kd.R_mono HO.out (fun _ _ => trivial), bb HB⟩
set_option maxHeartbeats 4000000 in
set_option maxRecDepth 100000 in
theorem scover_no1 (k : Nat) (A0 : Option Addr) (c0 : Nat) (m : List (List Int)) (A1 : Option Addr) (c1 : Nat) (l : List S28) (a : Int) (w : World) (hr0 : Kd.C (Kd.slice 5 (Kd.int .u8)) w A0 m.length m) (hc0 : m.length ≤ c0) (hr1 : Kd.C k28 w A1 l.length l) (hc1 : l.length ≤ c1) (h1 : spec_l3Watched.f k m l = some false) :
    Calls Tryd.prog 19 #[.agg #[.slice A0 m.length c0], .slice A1 l.length c1, .int .i64 a] w fun e w' => ∃ v0_ : Value, e = .returned (.tuple #[v0_, .bool false]) ∧ Kd.R kA2 53 w' w.heap.size (fun _ => True) v0_ [] ∧ Below w.heap.size w w' := by
 have hu := Tryd.underlying26
 have hu2 := Tryd.underlying53
 have HR0 := am hr0
 have HC0 := am hc0
 have HR1 := am hr1
 have HC1 := am hc1
 have HA1 := am h1
 clear hr0 hc0 hr1 hc1 h1
 have HB := am (Below.refl w.heap.size w)
 obtain ⟨g, hg_⟩ : ∃ g : List Int, g = [] := ⟨_, rfl⟩
 clear hg_
 go_enter Tryd.func19, Tryd.ntmps19
 go_wp2_with (first | ((with_reducible refine gate_dst (N := 3) rfl ?_); refine bE 3 #[.slice A0 m.length c0] 26 ?_; intro g3 hg w3 hbox hb; replace HB := am (below_step HB.out hb); have BK3 := am hbox; clear hb hbox hg; have hc3 : w3.cell? ⟨g3, 0, none⟩ = some (.slice A0 m.length c0) := (blk_cell BK3.out 0).trans rfl; have hf3 := blk_frozen BK3.out 0) | ((with_reducible refine gate_dst (N := 11) rfl ?_); refine Kd.R_lit kA2 _ 53 ?hg (N := 11) ?hd (xs := ([] : List (Int × Int))) (inner := []) (ok := fun _ => True) (okp := fun _ => True) ?hr ?hp (fun _ hk => hk) trivial (Below.refl _ _) (Nat.le_refl _) (by simp) ?_; (case hd => rfl); (case hg => rfl); (case hr => first | (go_simp; done) | (go_simp; rfl)); (case hp => exact (Reps.none _ _)); intro v11 w11 ho hb hg_ hnew_; clear hg_ hnew_; have HO := am (show Kd.R kA2 53 w11 w.heap.size (fun _ => True) v11 (covN g 0) from Kd.R_lower ho (below_size (bb HB))); replace HB := am (below_step (bb HB) hb); replace BK3 := b2 hb BK3; clear hc3 hf3 hb ho; have hc11 : w11.cell? ⟨g3, 0, none⟩ = some (.slice A0 m.length c0) := (blk_cell BK3.out 0).trans rfl; have hf11 := blk_frozen BK3.out 0) | (go_at_call 77; (with_reducible refine (spec_l3Watched.calls k _ _ m _ _ l false _ ?s1 ?s2 ?s3 ?s4 HA1.out).mono ?_); (case s1 => exact Kd.C_below HR0.out (bb HB)); (case s2 => exact HC0.out); (case s3 => exact Kd.C_below HR1.out (bb HB)); (case s4 => exact HC1.out); rintro e wa ⟨rfl, hb⟩; replace HO := am (Kd.R_below (rr HO) hb); replace BK3 := b2 hb BK3; replace HB := am (below_step (bb HB) hb); clear hb; have hca : wa.cell? ⟨g3, 0, none⟩ = some (.slice A0 m.length c0) := (blk_cell BK3.out 0).trans rfl; have hfa := blk_frozen BK3.out 0))
 go_ret2
 exact ⟨_, rfl, rr HO, bb HB⟩
set_option maxHeartbeats 4000000 in
set_option maxRecDepth 100000 in
theorem scover_no2 (k : Nat) (A0 : Option Addr) (c0 : Nat) (m : List (List Int)) (A1 : Option Addr) (c1 : Nat) (l : List S28) (a : Int) (w : World) (hr0 : Kd.C (Kd.slice 5 (Kd.int .u8)) w A0 m.length m) (hc0 : m.length ≤ c0) (hr1 : Kd.C k28 w A1 l.length l) (hc1 : l.length ≤ c1) (h1 : spec_l3Watched.f k m l = some true) (h2 : spec_l1In.f a 0 (wrap64 ((m.length : Int) - 1)) = some false) :
    Calls Tryd.prog 19 #[.agg #[.slice A0 m.length c0], .slice A1 l.length c1, .int .i64 a] w fun e w' => ∃ v0_ : Value, e = .returned (.tuple #[v0_, .bool false]) ∧ Kd.R kA2 53 w' w.heap.size (fun _ => True) v0_ [] ∧ Below w.heap.size w w' := by
 have hu := Tryd.underlying26
 have hu2 := Tryd.underlying53
 have HR0 := am hr0
 have HC0 := am hc0
 have HR1 := am hr1
 have HC1 := am hc1
 have HA1 := am h1
 clear hr0 hc0 hr1 hc1 h1
 have HB := am (Below.refl w.heap.size w)
 have HA2 := am h2
 clear h2
 obtain ⟨g, hg_⟩ : ∃ g : List Int, g = [] := ⟨_, rfl⟩
 clear hg_
 go_enter Tryd.func19, Tryd.ntmps19
 go_wp2_with (first | ((with_reducible refine gate_dst (N := 3) rfl ?_); refine bE 3 #[.slice A0 m.length c0] 26 ?_; intro g3 hg w3 hbox hb; replace HB := am (below_step HB.out hb); have BK3 := am hbox; clear hb hbox hg; have hc3 : w3.cell? ⟨g3, 0, none⟩ = some (.slice A0 m.length c0) := (blk_cell BK3.out 0).trans rfl; have hf3 := blk_frozen BK3.out 0) | ((with_reducible refine gate_dst (N := 11) rfl ?_); refine Kd.R_lit kA2 _ 53 ?hg (N := 11) ?hd (xs := ([] : List (Int × Int))) (inner := []) (ok := fun _ => True) (okp := fun _ => True) ?hr ?hp (fun _ hk => hk) trivial (Below.refl _ _) (Nat.le_refl _) (by simp) ?_; (case hd => rfl); (case hg => rfl); (case hr => first | (go_simp; done) | (go_simp; rfl)); (case hp => exact (Reps.none _ _)); intro v11 w11 ho hb hg_ hnew_; clear hg_ hnew_; have HO := am (show Kd.R kA2 53 w11 w.heap.size (fun _ => True) v11 (covN g 0) from Kd.R_lower ho (below_size (bb HB))); replace HB := am (below_step (bb HB) hb); replace BK3 := b2 hb BK3; clear hc3 hf3 hb ho; have hc11 : w11.cell? ⟨g3, 0, none⟩ = some (.slice A0 m.length c0) := (blk_cell BK3.out 0).trans rfl; have hf11 := blk_frozen BK3.out 0) | (go_at_call 77; (with_reducible refine (spec_l3Watched.calls k _ _ m _ _ l true _ ?s1 ?s2 ?s3 ?s4 HA1.out).mono ?_); (case s1 => exact Kd.C_below HR0.out (bb HB)); (case s2 => exact HC0.out); (case s3 => exact Kd.C_below HR1.out (bb HB)); (case s4 => exact HC1.out); rintro e wa ⟨rfl, hb⟩; replace HO := am (Kd.R_below (rr HO) hb); replace BK3 := b2 hb BK3; replace HB := am (below_step (bb HB) hb); clear hb; have hca : wa.cell? ⟨g3, 0, none⟩ = some (.slice A0 m.length c0) := (blk_cell BK3.out 0).trans rfl; have hfa := blk_frozen BK3.out 0) | (go_at_call 78; (with_reducible refine (spec_l1In.calls _ _ _ false _ HA2.out).mono ?_); rintro e w2 ⟨rfl, ⟨m2, rfl⟩⟩))
 go_ret2
 exact ⟨_, rfl, rr HO, bb HB⟩
set_option maxHeartbeats 8000000 in
set_option maxRecDepth 100000 in
theorem scover_yes (k : Nat) (A0 : Option Addr) (c0 : Nat) (m : List (List Int)) (A1 : Option Addr) (c1 : Nat) (l : List S28) (a : Int) (g : List Int) (w : World) (hr0 : Kd.C (Kd.slice 5 (Kd.int .u8)) w A0 m.length m) (hc0 : m.length ≤ c0) (hr1 : Kd.C k28 w A1 l.length l) (hc1 : l.length ≤ c1) (h1 : spec_l3Watched.f k m l = some true) (h2 : spec_l1In.f a 0 (wrap64 ((m.length : Int) - 1)) = some true) (h3 : spec_l3Counts.f k m l a = some g) (hg1 : g.length ≤ 1048576) :
    Calls Tryd.prog 19 #[.agg #[.slice A0 m.length c0], .slice A1 l.length c1, .int .i64 a] w fun e w' => ∃ v0_ : Value, e = .returned (.tuple #[v0_, .bool true]) ∧ Kd.R kA2 53 w' w.heap.size (fun _ => True) v0_ (covN g g.length) ∧ Below w.heap.size w w' := by
 have hu := Tryd.underlying26
 have hu2 := Tryd.underlying53
 have HR0 := am hr0
 have HC0 := am hc0
 have HR1 := am hr1
 have HC1 := am hc1
 have HA1 := am h1
 have HM := am hg1
 clear hr0 hc0 hr1 hc1 h1 hg1
 have HB := am (Below.refl w.heap.size w)
 have HA2 := am h2
 have HA3 := am h3
 clear h2 h3
 go_enter Tryd.func19, Tryd.ntmps19
 go_wp2_with (first | ((with_reducible refine gate_dst (N := 3) rfl ?_); refine bE 3 #[.slice A0 m.length c0] 26 ?_; intro g3 hg w3 hbox hb; replace HB := am (below_step HB.out hb); have BK3 := am hbox; clear hb hbox hg; have hc3 : w3.cell? ⟨g3, 0, none⟩ = some (.slice A0 m.length c0) := (blk_cell BK3.out 0).trans rfl; have hf3 := blk_frozen BK3.out 0) | ((with_reducible refine gate_dst (N := 11) rfl ?_); refine Kd.R_lit kA2 _ 53 ?hg (N := 11) ?hd (xs := ([] : List (Int × Int))) (inner := []) (ok := fun _ => True) (okp := fun _ => True) ?hr ?hp (fun _ hk => hk) trivial (Below.refl _ _) (Nat.le_refl _) (by simp) ?_; (case hd => rfl); (case hg => rfl); (case hr => first | (go_simp; done) | (go_simp; rfl)); (case hp => exact (Reps.none _ _)); intro v11 w11 ho hb hg_ hnew_; clear hg_ hnew_; have HO := am (show Kd.R kA2 53 w11 w.heap.size (fun _ => True) v11 (covN g 0) from Kd.R_lower ho (below_size (bb HB))); replace HB := am (below_step (bb HB) hb); replace BK3 := b2 hb BK3; clear hc3 hf3 hb ho; have hc11 : w11.cell? ⟨g3, 0, none⟩ = some (.slice A0 m.length c0) := (blk_cell BK3.out 0).trans rfl; have hf11 := blk_frozen BK3.out 0) | (go_at_call 77; (with_reducible refine (spec_l3Watched.calls k _ _ m _ _ l true _ ?s1 ?s2 ?s3 ?s4 HA1.out).mono ?_); (case s1 => exact Kd.C_below HR0.out (bb HB)); (case s2 => exact HC0.out); (case s3 => exact Kd.C_below HR1.out (bb HB)); (case s4 => exact HC1.out); rintro e wa ⟨rfl, hb⟩; replace HO := am (Kd.R_below (rr HO) hb); replace BK3 := b2 hb BK3; replace HB := am (below_step (bb HB) hb); clear hb; have hca : wa.cell? ⟨g3, 0, none⟩ = some (.slice A0 m.length c0) := (blk_cell BK3.out 0).trans rfl; have hfa := blk_frozen BK3.out 0) | (go_at_call 78; (with_reducible refine (spec_l1In.calls _ _ _ true _ HA2.out).mono ?_); rintro e w2 ⟨rfl, ⟨m2, rfl⟩⟩) | (go_at_call 79; (with_reducible refine (spec_l3Counts.calls k _ _ m _ _ l a g _ ?s1 ?s2 ?s3 ?s4 HA3.out).mono ?_); (case s1 => exact Kd.C_below HR0.out (bb HB)); (case s2 => exact HC0.out); (case s3 => exact Kd.C_below HR1.out (bb HB)); (case s4 => exact HC1.out); rintro e wc ⟨vc, rfl, hoc, hb⟩; obtain ⟨n2, hn2⟩ : ∃ n2, n2 = wc.heap.size := ⟨_, rfl⟩; obtain ⟨n1, hn1, hn1b⟩ : ∃ n1, (∀ k : Nat, k < n1 → ¬ (n1 ≤ k ∧ k < n2)) ∧ Kd.R (Kd.int .i64) 3 wc n1 (fun _ => True) vc g ∧ n1 ≤ wc.heap.size ∧ w.heap.size ≤ n1 ∧ Kd.R kA2 53 wc w.heap.size (fun k_ => k_ < n1) v11 (covN g 0) := ⟨_, fun k h1 h2 => absurd (Nat.lt_of_lt_of_le h1 h2.1) (Nat.lt_irrefl _), hoc, hb.size, below_size (bb HB), Kd.R_mono (Kd.R_below (Kd.R_mono (Kd.R_bound (rr HO)) (ok' := fun k_ => k_ < _) (fun k_ hk_ => hk_.2.2.1)) hb) (fun k_ hk_ => hk_)⟩; replace HB := am (below_step (bb HB) hb); have HG := am (show Kd.R (Kd.int .i64) 3 wc w.heap.size (fun k => n1 ≤ k ∧ k < n2) vc g from Kd.R_mono (Kd.R_lower (Kd.R_bound hn1b.1) hn1b.2.2.1) (fun k hk => ⟨hk.2.1, by rw [hn2]; exact hk.2.2.1⟩)); have HZ := am (Nat.le_of_eq hn2); replace HO := am (show Kd.R kA2 53 wc w.heap.size (fun k_ => ¬ (n1 ≤ k_ ∧ k_ < n2)) v11 (covN g 0) from Kd.R_mono hn1b.2.2.2 (fun k_ hk_ => hn1 k_ hk_)); clear hb hoc hn2 hn1 hn1b; obtain ⟨Ac, cc, ec⟩ := Kd.R_slice HG.out; subst ec))
 have hn_ := HM.out
 go_loopg [8, 10] g.length (fun kq s8 s10 wr => ∃ kk : Nat, kk ≤ g.length ∧ g.length - kk ≤ kq ∧ s10 = .int .i64 (kk : Int) ∧ Aside0 (Kd.R kA2 53 wr w.heap.size (fun k_ => ¬ (n1 ≤ k_ ∧ k_ < n2)) s8 (covN g kk)) ∧ Aside0 (Kd.R (Kd.int .i64) 3 wr w.heap.size (fun k_ => n1 ≤ k_ ∧ k_ < n2) (.slice Ac g.length cc) g) ∧ Aside0 (Below w.heap.size w wr) ∧ Aside0 (n2 ≤ wr.heap.size))
 case atStart => exact ⟨0, by omega, by omega, rfl, ⟨rr HO⟩, ⟨rr HG⟩, ⟨bb HB⟩, ⟨by repeat (first | exact HZ.out | (with_reducible first | apply sz_alloc | apply sz_drewN | apply sz_drew | apply sz_set))⟩⟩
 case round =>
  clear HO HG HB HZ
  obtain ⟨kk, hkk, hkq, rfl, HO, HG, HB, HZ⟩ := hrel
  have HLg := am (covN_len g kk)
  by_cases hlt : kk < g.length
  ·have hiz : (kk : Int) < (g.length : Int) := by omega
   have h0z : 0 ≤ (kk : Int) := by omega
   have c1b := decide_eq_true hiz
   have c2b := decide_eq_true h0z
   obtain ⟨adc, eadc, hx0⟩ := Kd.at_int (Kd.R_reads' HG.out).2.2 (kk : Int) h0z (by omega)
   cases eadc
   simp only [Int.toNat_natCast] at hx0
   have erd : rd g (kk : Int) = g.getD kk 0 := rfl
   rw [erd] at hx0
   clear erd
   obtain ⟨y, hy⟩ : ∃ y, y = g.getD kk 0 := ⟨_, rfl⟩
   rw [← hy] at hx0
   have HY := am hy
   clear hy
   by_cases hz : y = 0
   ·have c3b : (y == 0) = true := beq_iff_eq.mpr hz
    have c3c : (y != 0) = false := bne_eq_false_iff_eq.mpr hz
    have E1 := am (covN_zero (c := g) (n := kk) (by rw [← HY.out]; exact hz))
    subst hz
    replace hiz := eq_true hiz
    replace h0z := eq_true h0z
    go_wp2
    go_roundg (g.length - (kk + 1))
    case measure => omega
    case rel => exact ⟨kk + 1, by omega, by omega, by go_num, ⟨by rw [E1.out]; (with_reducible repeat (first | apply Kd.R_alloc | apply Kd.R_drewN | apply Kd.R_drew)); exact HO.out⟩, ⟨rr HG⟩, ⟨bb HB⟩, ⟨by repeat (first | exact HZ.out | (with_reducible first | apply sz_alloc | apply sz_drewN | apply sz_drew | apply sz_set))⟩⟩
   ·have c3b : (y == 0) = false := beq_eq_false_iff_ne.mpr hz
    have c3c : (y != 0) = true := bne_iff_ne.mpr hz
    have HYZ := am (show g.getD kk 0 ≠ 0 by rw [← HY.out]; exact hz)
    by_cases hp : 0 < kk
    ·have c4b : decide ((kk : Int) > 0) = true := decide_eq_true (by omega)
     have c4c : decide (0 < (kk : Int)) = true := decide_eq_true (by omega)
     have c4d : decide (0 ≤ (kk : Int) - 1) = true := decide_eq_true (by omega)
     have c4e : decide ((kk : Int) - 1 < (g.length : Int)) = true := decide_eq_true (by omega)
     have e_1 : ((kk : Int) - 1).toNat = kk - 1 := by omega
     obtain ⟨adp, eadp, hp0⟩ := Kd.at_int (Kd.R_reads' HG.out).2.2 ((kk : Int) - 1) (by omega) (by omega)
     cases eadp
     have erd : rd g ((kk : Int) - 1) = g.getD (kk - 1) 0 := by unfold rd; rw [e_1]
     rw [erd, e_1] at hp0
     clear erd e_1
     obtain ⟨yp, hyp⟩ : ∃ y, y = g.getD (kk - 1) 0 := ⟨_, rfl⟩
     rw [← hyp] at hp0
     have HYP := am hyp
     clear hyp
     have ew : wrap64 ((kk : Int) - 1) = (kk : Int) - 1 := wrap_in (by omega) (by omega)
     have i0 : (0 ≤ (kk : Int) - 1) = True := eq_true (by omega)
     have i1 : ((kk : Int) - 1 < (g.length : Int)) = True := eq_true (by omega)
     by_cases hq : 0 < yp
     ·have c5b : decide (yp > 0) = true := decide_eq_true hq
      have c5c : decide (0 < yp) = true := decide_eq_true hq
      have E1 := am (covN_set (c := g) (n := kk) HYZ.out hp (by rw [← HYP.out]; exact hq))
      have hne : 0 < (covN g kk).length := by
       obtain ⟨m, rfl⟩ : ∃ m, kk = m + 1 := ⟨kk - 1, by omega⟩
       exact covN_ne g m (by have h_ := HYP.out; simp only [Nat.add_sub_cancel] at h_; omega)
      obtain ⟨gd, cap, eo, hgd, hgl, _⟩ := Kd.R_form HO.out hne
      subst eo
      have hol2 : (covN g kk).length ≤ 1048576 := by have := HLg.out; have := HM.out; omega
      have hol1 : 0 < (covN g kk).length := hne
      have GE := am hgd
      have GL := am hgl
      clear hgd hgl hne
      have d0z : 0 ≤ ((covN g kk).length : Int) - 1 := by omega
      have d1z : ((covN g kk).length : Int) - 1 < ((covN g kk).length : Int) := by omega
      obtain ⟨ce, hcl, hMe, hcc, hfr⟩ := Kd.R_elem HO.out (0, 0) (((covN g kk).length : Int) - 1) d0z d1z
      obtain rfl := kA2_openM hMe
      have et : (((covN g kk).length : Int) - 1).toNat = (covN g kk).length - 1 := by omega
      have hc0 := hcc 0 _ rfl
      have hc1 := hcc 1 _ rfl
      have hf0 := hfr 0
      have hf1 := hfr 1
      have HP := Kd.R_seg HO.out (((covN g kk).length : Int) - 1) d0z d1z (seg := [.int .i64 (kk : Int)]) (j := 1) hcl hcc (show 2 ≤ 2 from by decide) (x' := ((rd_A2 (covN g kk) (((covN g kk).length : Int) - 1)).1, (kk : Int))) (kA2_mkM _ _ _ ((rd_A2 (covN g kk) (((covN g kk).length : Int) - 1)).1, (kk : Int))) (fun _ hk => hk)
      rw [et] at HP
      replace HP := am HP
      have HGd := am (show ∀ k, (n1 ≤ k ∧ k < n2) → k ≠ gd from fun k hk e => by subst e; exact HO.out.1 k rfl hk)
      simp only [show (kA2).sz = 2 from rfl, et, Nat.add_zero] at hc0 hc1 hf0 hf1
      clear hcl hcc hfr hMe
      have ew2 : wrap64 (((covN g kk).length : Int) - 1) = ((covN g kk).length : Int) - 1 := wrap_in (by omega) (by omega)
      replace d0z := eq_true d0z
      replace d1z := eq_true d1z
      replace hiz := eq_true hiz
      replace h0z := eq_true h0z
      go_wp2
      go_roundg (g.length - (kk + 1))
      case measure => omega
      case rel => exact ⟨kk + 1, by omega, by omega, by go_num, ⟨by rw [E1.out]; rw [show (covN g kk).length - 1 = (((covN g kk).length : Int) - 1).toNat by omega]; (with_reducible repeat (first | apply Kd.R_alloc | apply Kd.R_drewN | apply Kd.R_drew)); first | exact HP.out.1 | (rw [et]; exact HP.out.1)⟩, ⟨by (with_reducible repeat (first | apply Kd.R_alloc | apply Kd.R_drewN | apply Kd.R_drew)); exact Kd.R_far (p := ⟨gd, _, none⟩) HG.out HGd.out _⟩, ⟨by first | exact below_set HB.out GE.out | (apply pw_below_drewN; exact below_set HB.out GE.out)⟩, ⟨sz_set HZ.out⟩⟩
     ·have c5b : decide (yp > 0) = false := decide_eq_false hq
      have c5c : decide (0 < yp) = false := decide_eq_false hq
      have E1 := am (covN_app (c := g) (n := kk) HYZ.out (fun h => hq (by rw [HYP.out]; exact h.2)))
      replace hiz := eq_true hiz
      replace h0z := eq_true h0z
      go_wp2_with ((with_reducible refine gate_builtin (b := .append) (xs := #[.tmp 58, .tmp 62]) rfl ?_); at_builtin; refine Kd.R_append kA2 (w0 := w) w.heap.size rfl (.tmp 58) (.tmp 62) 42 53 (.agg #[(.int .i64 0), (.int .i64 0)]) 16 rfl Tryd.underlying42 infoA2 rfl (by decide) (by omega) u8 (covN g kk) ((kk : Int), (kk : Int)) [.int .i64 (kk : Int), .int .i64 (kk : Int)] (fun k_ => ¬ (n1 ≤ k_ ∧ k_ < n2)) (fun _ => False) rfl rfl ?aP (fun _ hk => hk.elim) ?aF ?aO ?aB ?aS ?aL ?_; (case aP => exact kA2_mkM _ _ _ ((kk : Int), (kk : Int))); (case aF => exact (fun k_ hk h_ => absurd (Nat.lt_of_lt_of_le h_.2 (Nat.le_trans HZ.out hk)) (Nat.lt_irrefl _))); (case aO => exact HO.out); (case aB => exact (bb HB)); (case aS => exact (below_size (bb HB))); (case aL => have := HLg.out; have := HM.out; omega); intro v35 w35 ho hb hg hat; rw [← E1.out] at ho; replace HB := am hb; replace HG := am (Kd.R_grown HG.out hg (fun k hk e => HO.out.1 k e.symm hk)); replace HO := am ho; replace HZ := am (Nat.le_trans HZ.out hg.size); clear ho hb hg hat)
      go_roundg (g.length - (kk + 1))
      case measure => omega
      case rel => exact ⟨kk + 1, by omega, by omega, by go_num, ⟨rr HO⟩, ⟨rr HG⟩, ⟨bb HB⟩, ⟨by repeat (first | exact HZ.out | (with_reducible first | apply sz_alloc | apply sz_drewN | apply sz_drew | apply sz_set))⟩⟩
    ·have c4b : decide ((kk : Int) > 0) = false := decide_eq_false (by omega)
     have c4c : decide (0 < (kk : Int)) = false := decide_eq_false (by omega)
     have E1 := am (covN_app (c := g) (n := kk) HYZ.out (fun h => hp h.1))
     replace hiz := eq_true hiz
     replace h0z := eq_true h0z
     go_wp2_with ((with_reducible refine gate_builtin (b := .append) (xs := #[.tmp 58, .tmp 62]) rfl ?_); at_builtin; refine Kd.R_append kA2 (w0 := w) w.heap.size rfl (.tmp 58) (.tmp 62) 42 53 (.agg #[(.int .i64 0), (.int .i64 0)]) 16 rfl Tryd.underlying42 infoA2 rfl (by decide) (by omega) u8 (covN g kk) ((kk : Int), (kk : Int)) [.int .i64 (kk : Int), .int .i64 (kk : Int)] (fun k_ => ¬ (n1 ≤ k_ ∧ k_ < n2)) (fun _ => False) rfl rfl ?aP (fun _ hk => hk.elim) ?aF ?aO ?aB ?aS ?aL ?_; (case aP => exact kA2_mkM _ _ _ ((kk : Int), (kk : Int))); (case aF => exact (fun k_ hk h_ => absurd (Nat.lt_of_lt_of_le h_.2 (Nat.le_trans HZ.out hk)) (Nat.lt_irrefl _))); (case aO => exact HO.out); (case aB => exact (bb HB)); (case aS => exact (below_size (bb HB))); (case aL => have := HLg.out; have := HM.out; omega); intro v35 w35 ho hb hg hat; rw [← E1.out] at ho; replace HB := am hb; replace HG := am (Kd.R_grown HG.out hg (fun k hk e => HO.out.1 k e.symm hk)); replace HO := am ho; replace HZ := am (Nat.le_trans HZ.out hg.size); clear ho hb hg hat)
     go_roundg (g.length - (kk + 1))
     case measure => omega
     case rel => exact ⟨kk + 1, by omega, by omega, by go_num, ⟨rr HO⟩, ⟨rr HG⟩, ⟨bb HB⟩, ⟨by repeat (first | exact HZ.out | (with_reducible first | apply sz_alloc | apply sz_drewN | apply sz_drew | apply sz_set))⟩⟩
  ·obtain ekk : kk = g.length := by omega
   subst ekk
   have hiz : ¬ (g.length : Int) < (g.length : Int) := by omega
   have c1b : decide ((g.length : Int) < (g.length : Int)) = false := decide_eq_false hiz
   go_wp2
   go_ret2
   exact ⟨_, rfl, by (with_reducible repeat (first | apply Kd.R_alloc | apply Kd.R_drewN | apply Kd.R_drew)); exact Kd.R_mono HO.out (fun _ _ => trivial), bb HB⟩
def spec_PartCover.f (k : Nat) (m : List (List Int)) (l : List S28) (a : Int) : Option (List (Int × Int) × Bool) :=
  (spec_l3Watched.f k m l).bind fun t => if t = true then ((spec_l1In.f a 0 (wrap64 ((m.length : Int) - 1))).bind fun h => if h = true then ((spec_l3Counts.f k m l a).bind fun g => if g.length ≤ 1048576 then some (covN g g.length, true) else none) else some ([], false)) else some ([], false)
theorem spec_PartCover.calls (k : Nat) (A0 : Option Addr) (c0 : Nat) (m : List (List Int)) (A1 : Option Addr) (c1 : Nat) (l : List S28) (a : Int) (r1 : List (Int × Int)) (r2 : Bool) (w : World) (hr0 : Kd.C (Kd.slice 5 (Kd.int .u8)) w A0 m.length m) (hc0 : m.length ≤ c0) (hr1 : Kd.C k28 w A1 l.length l) (hc1 : l.length ≤ c1) (h : spec_PartCover.f k m l a = some (r1, r2)) :
    Calls Tryd.prog 19 #[.agg #[.slice A0 m.length c0], .slice A1 l.length c1, .int .i64 a] w fun e w' => ∃ v0_ : Value, e = .returned (.tuple #[v0_, .bool r2]) ∧ Kd.R kA2 53 w' w.heap.size (fun _ => True) v0_ r1 ∧ Below w.heap.size w w' := by
  unfold spec_PartCover.f at h
  obtain ⟨t, h1, h⟩ := Option.bind_eq_some_iff.mp h
  cases t with
  | false =>
    rw [if_neg (by decide)] at h
    obtain ⟨rfl, rfl⟩ := Prod.mk.inj (Option.some.inj h)
    exact scover_no1 k A0 c0 m A1 c1 l a w hr0 hc0 hr1 hc1 h1
  | true =>
    rw [if_pos rfl] at h
    obtain ⟨t, h2, h⟩ := Option.bind_eq_some_iff.mp h
    cases t with
    | false =>
      rw [if_neg (by decide)] at h
      obtain ⟨rfl, rfl⟩ := Prod.mk.inj (Option.some.inj h)
      exact scover_no2 k A0 c0 m A1 c1 l a w hr0 hc0 hr1 hc1 h1 h2
    | true =>
      rw [if_pos rfl] at h
      obtain ⟨g, h3, h⟩ := Option.bind_eq_some_iff.mp h
      by_cases h4 : g.length ≤ 1048576
      · rw [if_pos h4] at h
        obtain ⟨rfl, rfl⟩ := Prod.mk.inj (Option.some.inj h)
        exact scover_yes k A0 c0 m A1 c1 l a g w hr0 hc0 hr1 hc1 h1 h2 h3 h4
      · rw [if_neg h4] at h; cases h
def impl_PartCover.f (k : Nat) (m : List (List Int)) (l : List S28) (a : Int) : Option (List (Int × Int) × Bool) :=
  (impl_NoticedCounts.f k m l a).bind fun t => if t.2 = true then (if t.1.length ≤ 1048576 then some (covN t.1 t.1.length, true) else none) else some ([], false)
theorem impl_PartCover.calls (k : Nat) (A0 : Option Addr) (c0 : Nat) (m : List (List Int)) (A1 : Option Addr) (c1 : Nat) (l : List S28) (a : Int) (r1 : List (Int × Int)) (r2 : Bool) (w : World) (hr0 : Kd.C (Kd.slice 5 (Kd.int .u8)) w A0 m.length m) (hc0 : m.length ≤ c0) (hr1 : Kd.C k28 w A1 l.length l) (hc1 : l.length ≤ c1) (h : impl_PartCover.f k m l a = some (r1, r2)) :
    Calls Tryd.prog 18 #[.agg #[.slice A0 m.length c0], .slice A1 l.length c1, .int .i64 a] w fun e w' => ∃ v0_ : Value, e = .returned (.tuple #[v0_, .bool r2]) ∧ Kd.R kA2 53 w' w.heap.size (fun _ => True) v0_ r1 ∧ Below w.heap.size w w' := by
  unfold impl_PartCover.f at h
  obtain ⟨⟨g, t⟩, h1, h⟩ := Option.bind_eq_some_iff.mp h
  cases t with
  | false =>
    dsimp only at h
    rw [if_neg (by decide)] at h
    obtain ⟨rfl, rfl⟩ := Prod.mk.inj (Option.some.inj h)
    exact (cover_no k A0 c0 m A1 c1 l a g w hr0 hc0 hr1 hc1 h1).mono fun e w' ⟨he, hb⟩ => ⟨_, he, Kd.R_nil _ _ _ _ _, hb⟩
  | true =>
    dsimp only at h
    rw [if_pos rfl] at h
    by_cases h4 : g.length ≤ 1048576
    · rw [if_pos h4] at h
      obtain ⟨rfl, rfl⟩ := Prod.mk.inj (Option.some.inj h)
      exact cover_yes k A0 c0 m A1 c1 l a g w hr0 hc0 hr1 hc1 h1 h4
    · rw [if_neg h4] at h; cases h
def posL (n : Int) : List Int → Nat
  | [] => 0
  | x :: xs => if x < n then posL n xs + 1 else 0
theorem posL_le (n : Int) : ∀ l : List Int, posL n l ≤ l.length
  | [] => by simp [posL]
  | x :: xs => by
    have := posL_le n xs
    simp only [posL, List.length_cons]
    split <;> omega
theorem posL_lt (n : Int) : ∀ (l : List Int) (j : Nat), j < posL n l → l.getD j 0 < n
  | [], j, h => by simp [posL] at h
  | x :: xs, j, h => by
    simp only [posL] at h
    by_cases hx : x < n
    · rw [if_pos hx] at h
      cases j with
      | zero => exact hx
      | succ j => exact posL_lt n xs j (by omega)
    · rw [if_neg hx] at h; omega
theorem posL_end (n : Int) : ∀ (l : List Int), posL n l < l.length → ¬ l.getD (posL n l) 0 < n
  | [], h => by simp [posL] at h
  | x :: xs, h => by
    by_cases hx : x < n
    · have e : posL n (x :: xs) = posL n xs + 1 := by simp only [posL]; rw [if_pos hx]
      rw [e] at h ⊢
      have := posL_end n xs (by simpa using h)
      simpa using this
    · have e : posL n (x :: xs) = 0 := by simp only [posL]; rw [if_neg hx]
      rw [e]
      simpa using hx
def insL (l : List Int) (n : Int) : List Int := l.take (posL n l) ++ n :: l.drop (posL n l)
theorem insL_len (l : List Int) (n : Int) : (insL l n).length = l.length + 1 := by
  have := posL_le n l
  simp only [insL, List.length_append, List.length_take, List.length_cons, List.length_drop]
  omega
theorem R1_lit (W : World) (b : Nat) (ok : Nat → Prop) (n : Int) : Reps ((Kd.int .i64).M W b ok) (Kd.int .i64).sz [n] [.int .i64 n] := by
  refine ⟨rfl, fun j p hj => ?_⟩
  cases j with
  | zero =>
    simp only [List.getElem?_cons_zero, Option.some.injEq] at hj
    subst hj
    rfl
  | succ j => simp at hj
theorem rows_len {α : Type} {R : α → List Value → Prop} {sz : Nat} {W : World} {A : Option Addr} {m m' : Nat} {ys : List α} (e : m = m') (h : ReadsRow R sz W A m ys) : ReadsRow R sz W A m' ys := by
  subst e; exact h
theorem C_drop2 {w : World} {ad : Addr} {c m : Nat} {xs : List Int} (h : (Kd.int .i64).C w (some ad) xs.length xs) (hm : m ≤ xs.length) (hc : xs.length ≤ c) : (Kd.int .i64).C w (if c = m then some ad else some (ad.add m)) (xs.drop m).length (xs.drop m) := by
  have h' := Kd.C_drop h hm hc
  rw [show m * (Kd.int .i64).sz = m from Nat.mul_one m] at h'
  by_cases e : c = m
  · rw [if_pos e] at h' ⊢; exact h'
  · rw [if_neg e] at h' ⊢; exact h'
theorem C_drop1 {w : World} {ad : Addr} {c m : Nat} {xs : List Int} (h : (Kd.int .i64).C w (some ad) xs.length xs) (hm : m ≤ xs.length) (hc : xs.length ≤ c) (e : ¬ c = m) : (Kd.int .i64).C w (some (ad.add m)) (xs.drop m).length (xs.drop m) := by
  have h' := C_drop2 h hm hc
  rwa [if_neg e] at h'
set_option maxHeartbeats 8000000 in
set_option maxRecDepth 100000 in
theorem l1Put_new (A0 : Option Addr) (c0 : Nat) (l : List Int) (n : Int) (w : World) (hr0 : Kd.C (Kd.int .i64) w A0 l.length l) (hc0 : l.length ≤ c0) (hl : l.length ≤ 1048576) (hl0 : 0 < l.length) (hn : ¬ n ∈ l) :
    Calls Tryd.prog 118 #[.slice A0 l.length c0, .int .i64 n] w fun e w' => ∃ v0_ : Value, e = .returned v0_ ∧ Kd.R (Kd.int .i64) 3 w' w.heap.size (fun _ => True) v0_ (insL l n) ∧ Below w.heap.size w w' := by
 have HR := am hr0
 have HC := am hc0
 have HL := am hl
 have HM := am hn
 have HB := am (Below.refl w.heap.size w)
 obtain ⟨p, hp⟩ : ∃ p, p = posL n l := ⟨_, rfl⟩
 have HP := am (show p ≤ l.length by rw [hp]; exact posL_le n l)
 have HQ := am (show ∀ j, j < p → l.getD j 0 < n by rw [hp]; exact posL_lt n l)
 have HE := am hp
 have HS := am (show p < l.length → ¬ l.getD p 0 < n by rw [hp]; exact posL_end n l)
 obtain ⟨ad, rfl⟩ : ∃ ad, A0 = some ad := by
  obtain ⟨ad, e, _⟩ := Kd.at_int hr0 0 (by omega) (by omega)
  exact ⟨ad, e⟩
 have hcz : (l.length : Int) ≤ (c0 : Int) := by omega
 clear hr0 hc0 hn hp
 go_enter Tryd.func118, Tryd.ntmps118
 go_wp2
 go_loopg [5] l.length (fun kq v5 wr => ∃ kk : Nat, kk ≤ p ∧ l.length - kk ≤ kq ∧ v5 = .int .i64 (kk : Int) ∧ Aside0 (Below w.heap.size w wr))
 case atStart => exact ⟨0, by omega, by omega, rfl, HB⟩
 case round =>
  clear HB
  obtain ⟨kk, hkk, hkq, rfl, HB⟩ := hrel
  have hple := HP.out
  by_cases hlt : kk < l.length
  ·have hiz : (kk : Int) < (l.length : Int) := by omega
   have h0z : 0 ≤ (kk : Int) := by omega
   have c1b := decide_eq_true hiz
   have c2b := decide_eq_true h0z
   obtain ⟨ad', ead, hx0⟩ := Kd.at_int HR.out (kk : Int) h0z hiz
   cases ead
   simp only [Int.toNat_natCast] at hx0
   have erd : rd l (kk : Int) = l.getD kk 0 := rfl
   rw [erd] at hx0
   clear erd
   have hx1 := pw_cell_below HB.out hx0
   clear hx0
   obtain ⟨y, hy⟩ : ∃ y, y = l.getD kk 0 := ⟨_, rfl⟩
   rw [← hy] at hx1
   by_cases hq : kk < p
   ·have hyn : y < n := by rw [hy]; exact HQ.out kk hq
    have c3b := decide_eq_true hyn
    clear hy
    replace hiz := eq_true hiz
    replace h0z := eq_true h0z
    go_wp2
    go_roundg (l.length - (kk + 1))
    case measure => omega
    case rel => exact ⟨kk + 1, by omega, by omega, by go_num, HB⟩
   ·obtain rfl : kk = p := by omega
    have hyn : ¬ y < n := by have h_ := HS.out hlt; rw [hy]; omega
    have hyne : ¬ y = n := by
     rintro rfl
     refine HM.out ?_
     rw [hy, List.getD_eq_getElem?_getD, List.getElem?_eq_getElem hlt]
     exact List.getElem_mem hlt
    have c3b := decide_eq_false hyn
    have c4b : (y == n) = false := beq_eq_false_iff_ne.mpr hyne
    have c4c : (y != n) = true := bne_iff_ne.mpr hyne
    have HTL := am (show (l.take kk).length = kk by rw [List.length_take]; omega)
    have HDL := am (show (l.drop kk).length = l.length - kk from List.length_drop)
    clear hy
    have hpz : (kk : Int) ≤ (l.length : Int) := by omega
    have h1z : (l.length : Int) ≤ (c0 : Int) := by omega
    have c5b := decide_eq_true hpz
    have hkc : (kk ≤ c0) = True := eq_true (by omega)
    have hkl : (kk ≤ l.length) = True := eq_true (by omega)
    have hll : (l.length ≤ c0) = True := eq_true (by omega)
    have hnc : ¬ c0 = kk := by omega
    go_wp2
    refine start_ (n := 13) (S := fun _ => True) (ds := []) #[ff, ff, ff, ff, ff, ff, ff, ff, ff, ff, ff, ff, ff] (by kernel_rfl) rfl rfl trivial (fun hHeld => ?_)
    replace HB := am (below_drew1 HB.out)
    generalize wr.drew = wd at HB hHeld ⊢
    refine pM #[ff, tt, ff, ff, ff, ff, ff, ff, ff, ff, ff, ff, ff] 1 34 ?_
    refine pM #[ff, tt, tt, ff, ff, ff, ff, ff, ff, ff, ff, ff, ff] 2 35 ?_
    refine pM #[ff, tt, tt, ff, ff, tt, ff, ff, ff, ff, ff, ff, ff] 5 38 ?_
    refine pM #[ff, tt, tt, ff, ff, tt, ff, ff, tt, ff, ff, ff, ff] 8 41 ?_
    refine pM #[ff, tt, tt, ff, ff, tt, ff, ff, tt, tt, ff, ff, ff] 9 42 ?_
    refine pM #[ff, tt, tt, tt, ff, tt, ff, ff, tt, tt, ff, ff, ff] 3 36 ?_
    refine pM #[ff, tt, tt, tt, ff, tt, ff, ff, tt, tt, tt, ff, ff] 10 43 ?_
    refine two_ (i := 0) (j := 6) (Ni := some 33) (Nj := some 39) #[tt, tt, tt, tt, ff, tt, ff, ff, tt, tt, tt, ff, ff] #[ff, tt, tt, tt, ff, tt, tt, ff, tt, tt, tt, ff, ff] rfl rfl rfl rfl (by kernel_rfl) (by decide) (by decide) (fun K hK => ?_) (fun K hK => ?_)
    ·refine Kd.R_lit_step (Kd.int .i64) _ 3 ?hg (N := 33) ?hd (xs := ([] : List Int)) (inner := []) (ok := fun _ => True) (okp := fun _ => True) ?hr ?hp (fun _ hk => hk) trivial (Below.refl _ _) (Nat.le_refl _) (by simp) ?_
     case hd => rfl
     case hg => rfl
     case hr => first | (go_simp; done) | (go_simp; rfl)
     case hp => exact (Reps.none _ _)
     intro v33 w33 ho hb hg_ hnew_
     clear hg_ hnew_
     have H33 := am (Kd.R_lower (Kd.R_mono ho (ok' := fun k_ => True ∧ True) (fun _ _ => ⟨trivial, trivial⟩)) (below_size (bb HB)))
     replace HB := am (below_step (bb HB) hb)
     clear ho hb
     refine hK.out _ _ trivial (fun hHeld => ?_)
     clear hK K
     refine nP 33 ?_
     refine two_ (i := 4) (j := 6) (Ni := some 37) (Nj := some 39) #[tt, tt, tt, tt, tt, tt, ff, ff, tt, tt, tt, ff, ff] #[tt, tt, tt, tt, ff, tt, tt, ff, tt, tt, tt, ff, ff] rfl rfl rfl rfl (by kernel_rfl) (by decide) (by decide) (fun K hK => ?_) (fun K hK => ?_)
     ·refine Kd.R_append_rows_step (Kd.int .i64) (w0 := w) w.heap.size (by rfl) (.tmp 33) (.tmp 36) 39 3 (.int .i64 0) 8 rfl Tryd.underlying39 info3 rfl (by decide) (by omega) _ [] (l.take kk) (some ad) kk c0 (fun _ => True) (fun _ => False) rfl rfl ?aO ?aR (fun _ _ h => h) (fun _ h => h.elim) ?aF ?aB ?aS ?aL ?_
      case aO => exact Kd.R_mono H33.out (fun _ _ => trivial)
      case aR => first | exact (Kd.C_below (Kd.C_take HR.out (Nat.le_of_lt_succ (by have := HP.out; omega))) (bb HB)) | exact rows_len (by first | exact HTL.out | exact HDL.out) (Kd.C_below (Kd.C_take HR.out (Nat.le_of_lt_succ (by have := HP.out; omega))) (bb HB))
      case aF => exact fun _ _ => trivial
      case aB => exact bb HB
      case aS => exact below_size (bb HB)
      case aL => have h1_ := HL.out; have h2_ := HP.out; simp only [List.length_append, List.length_take, List.length_drop, List.length_cons, List.length_nil]; omega
      intro v37 w37 ho hb hg hat
      have H37 := am ho
      replace HB := am hb
      clear H33 ho hb hg hat
      refine hK.out _ _ trivial (fun hHeld => ?_)
      clear hK K
      refine nP 37 ?_
      refine one_ (i := 6) (N := some 39) #[tt, tt, tt, tt, tt, tt, tt, ff, tt, tt, tt, ff, ff] rfl rfl (by kernel_rfl) (by decide) (fun K hK => ?_)
      refine Kd.R_lit_step (Kd.int .i64) _ 3 ?hg (N := 39) ?hd (xs := ([n] : List Int)) (inner := [.int .i64 n]) (ok := fun _ => True) (okp := fun _ => True) ?hr ?hp (fun _ hk => hk) trivial (Below.refl _ _) (Nat.le_refl _) (by simp) ?_
      case hd => rfl
      case hg => rfl
      case hr => first | (go_simp; done) | (go_simp; rfl)
      case hp => exact R1_lit _ _ _ n
      intro v39 w39 ho hb hg_ hnew_
      clear hg_ hnew_
      have H39 := am (Kd.R_lower (Kd.R_new' ho (Kd.R_lt H37.out)) (below_size (bb HB)))
      replace H37 := am (Kd.R_elder' H37.out (Kd.R_base ho) hb)
      replace HB := am (below_step (bb HB) hb)
      clear ho hb
      refine hK.out _ _ trivial (fun hHeld => ?_)
      clear hK K
      refine nP 39 ?_
      refine one_ (i := 7) (N := some 40) #[tt, tt, tt, tt, tt, tt, tt, tt, tt, tt, tt, ff, ff] rfl rfl (by kernel_rfl) (by decide) (fun K hK => ?_)
      obtain ⟨A39, c39, e39⟩ := Kd.R_slice H39.out
      subst e39
      refine Kd.R_append_rows_step (Kd.int .i64) (w0 := w) w.heap.size (by rfl) (.tmp 37) (.tmp 39) 39 3 (.int .i64 0) 8 rfl Tryd.underlying39 info3 rfl (by decide) (by omega) _ (l.take kk) [n] A39 [n].length c39 (fun _ => True) (fun _ => False) rfl rfl ?aO ?aR (fun _ _ h => h) (fun _ h => h.elim) ?aF ?aB ?aS ?aL ?_
      case aO => exact Kd.R_mono H37.out (fun _ _ => trivial)
      case aR => first | exact (Kd.R_reads' H39.out).2.2 | exact rows_len (by first | exact HTL.out | exact HDL.out) (Kd.R_reads' H39.out).2.2
      case aF => exact fun _ _ => trivial
      case aB => exact bb HB
      case aS => exact below_size (bb HB)
      case aL => have h1_ := HL.out; have h2_ := HP.out; simp only [List.length_append, List.length_take, List.length_drop, List.length_cons, List.length_nil]; omega
      intro v40 w40 ho hb hg hat
      have H40 := am ho
      replace H39 := am (Kd.R_after H39.out hg hat)
      replace HB := am hb
      clear H37 ho hb hg hat
      refine hK.out _ _ trivial (fun hHeld => ?_)
      clear hK K
      refine nP 40 ?_
      refine one_ (i := 11) (N := some 44) #[tt, tt, tt, tt, tt, tt, tt, tt, tt, tt, tt, tt, ff] rfl rfl (by kernel_rfl) (by decide) (fun K hK => ?_)
      refine Kd.R_append_rows_step (Kd.int .i64) (w0 := w) w.heap.size (by rfl) (.tmp 40) (.tmp 43) 39 3 (.int .i64 0) 8 rfl Tryd.underlying39 info3 rfl (by decide) (by omega) _ (l.take kk ++ [n]) (l.drop kk) (some (ad.add kk)) (l.length - kk) (c0 - kk) (fun _ => True) (fun _ => False) rfl rfl ?aO ?aR (fun _ _ h => h) (fun _ h => h.elim) ?aF ?aB ?aS ?aL ?_
      case aO => exact Kd.R_mono H40.out (fun _ _ => trivial)
      case aR => first | exact (Kd.C_below (C_drop1 HR.out (Nat.le_of_lt_succ (by have := HP.out; omega)) HC.out hnc) (bb HB)) | exact rows_len (by first | exact HTL.out | exact HDL.out) (Kd.C_below (C_drop1 HR.out (Nat.le_of_lt_succ (by have := HP.out; omega)) HC.out hnc) (bb HB))
      case aF => exact fun _ _ => trivial
      case aB => exact bb HB
      case aS => exact below_size (bb HB)
      case aL => have h1_ := HL.out; have h2_ := HP.out; simp only [List.length_append, List.length_take, List.length_drop, List.length_cons, List.length_nil]; omega
      intro v44 w44 ho hb hg hat
      have H44 := am ho
      replace HB := am hb
      clear H40 ho hb hg hat
      refine hK.out _ _ trivial (fun hHeld => ?_)
      clear hK K
      refine nP 44 ?_
      refine pM #[tt, tt, tt, tt, tt, tt, tt, tt, tt, tt, tt, tt, tt] 12 4 ?_
      refine done_ (by kernel_rfl) ?_
      go_wp2
      all_goals go_ret
      all_goals exact ⟨_, rfl, by have h_ := H44.out; simp only [List.append_assoc, List.singleton_append] at h_; rw [insL, ← HE.out]; exact h_, HB.out⟩
     ·refine Kd.R_lit_step (Kd.int .i64) _ 3 ?hg (N := 39) ?hd (xs := ([n] : List Int)) (inner := [.int .i64 n]) (ok := fun _ => True) (okp := fun _ => True) ?hr ?hp (fun _ hk => hk) trivial (Below.refl _ _) (Nat.le_refl _) (by simp) ?_
      case hd => rfl
      case hg => rfl
      case hr => first | (go_simp; done) | (go_simp; rfl)
      case hp => exact R1_lit _ _ _ n
      intro v39 w39 ho hb hg_ hnew_
      clear hg_ hnew_
      have H39 := am (Kd.R_lower (Kd.R_new' ho (Kd.R_lt H33.out)) (below_size (bb HB)))
      replace H33 := am (Kd.R_elder' H33.out (Kd.R_base ho) hb)
      replace HB := am (below_step (bb HB) hb)
      clear ho hb
      refine hK.out _ _ trivial (fun hHeld => ?_)
      clear hK K
      refine nP 39 ?_
      refine one_ (i := 4) (N := some 37) #[tt, tt, tt, tt, tt, tt, tt, ff, tt, tt, tt, ff, ff] rfl rfl (by kernel_rfl) (by decide) (fun K hK => ?_)
      refine Kd.R_append_rows_step (Kd.int .i64) (w0 := w) w.heap.size (by rfl) (.tmp 33) (.tmp 36) 39 3 (.int .i64 0) 8 rfl Tryd.underlying39 info3 rfl (by decide) (by omega) _ [] (l.take kk) (some ad) kk c0 (fun _ => True) (fun _ => False) rfl rfl ?aO ?aR (fun _ _ h => h) (fun _ h => h.elim) ?aF ?aB ?aS ?aL ?_
      case aO => exact Kd.R_mono H33.out (fun _ _ => trivial)
      case aR => first | exact (Kd.C_below (Kd.C_take HR.out (Nat.le_of_lt_succ (by have := HP.out; omega))) (bb HB)) | exact rows_len (by first | exact HTL.out | exact HDL.out) (Kd.C_below (Kd.C_take HR.out (Nat.le_of_lt_succ (by have := HP.out; omega))) (bb HB))
      case aF => exact fun _ _ => trivial
      case aB => exact bb HB
      case aS => exact below_size (bb HB)
      case aL => have h1_ := HL.out; have h2_ := HP.out; simp only [List.length_append, List.length_take, List.length_drop, List.length_cons, List.length_nil]; omega
      intro v37 w37 ho hb hg hat
      have H37 := am ho
      replace H39 := am (Kd.R_after H39.out hg hat)
      replace HB := am hb
      clear H33 ho hb hg hat
      refine hK.out _ _ trivial (fun hHeld => ?_)
      clear hK K
      refine nP 37 ?_
      refine one_ (i := 7) (N := some 40) #[tt, tt, tt, tt, tt, tt, tt, tt, tt, tt, tt, ff, ff] rfl rfl (by kernel_rfl) (by decide) (fun K hK => ?_)
      obtain ⟨A39, c39, e39⟩ := Kd.R_slice H39.out
      subst e39
      refine Kd.R_append_rows_step (Kd.int .i64) (w0 := w) w.heap.size (by rfl) (.tmp 37) (.tmp 39) 39 3 (.int .i64 0) 8 rfl Tryd.underlying39 info3 rfl (by decide) (by omega) _ (l.take kk) [n] A39 [n].length c39 (fun _ => True) (fun _ => False) rfl rfl ?aO ?aR (fun _ _ h => h) (fun _ h => h.elim) ?aF ?aB ?aS ?aL ?_
      case aO => exact Kd.R_mono H37.out (fun _ _ => trivial)
      case aR => first | exact (Kd.R_reads' H39.out).2.2 | exact rows_len (by first | exact HTL.out | exact HDL.out) (Kd.R_reads' H39.out).2.2
      case aF => exact fun _ _ => trivial
      case aB => exact bb HB
      case aS => exact below_size (bb HB)
      case aL => have h1_ := HL.out; have h2_ := HP.out; simp only [List.length_append, List.length_take, List.length_drop, List.length_cons, List.length_nil]; omega
      intro v40 w40 ho hb hg hat
      have H40 := am ho
      replace H39 := am (Kd.R_after H39.out hg hat)
      replace HB := am hb
      clear H37 ho hb hg hat
      refine hK.out _ _ trivial (fun hHeld => ?_)
      clear hK K
      refine nP 40 ?_
      refine one_ (i := 11) (N := some 44) #[tt, tt, tt, tt, tt, tt, tt, tt, tt, tt, tt, tt, ff] rfl rfl (by kernel_rfl) (by decide) (fun K hK => ?_)
      refine Kd.R_append_rows_step (Kd.int .i64) (w0 := w) w.heap.size (by rfl) (.tmp 40) (.tmp 43) 39 3 (.int .i64 0) 8 rfl Tryd.underlying39 info3 rfl (by decide) (by omega) _ (l.take kk ++ [n]) (l.drop kk) (some (ad.add kk)) (l.length - kk) (c0 - kk) (fun _ => True) (fun _ => False) rfl rfl ?aO ?aR (fun _ _ h => h) (fun _ h => h.elim) ?aF ?aB ?aS ?aL ?_
      case aO => exact Kd.R_mono H40.out (fun _ _ => trivial)
      case aR => first | exact (Kd.C_below (C_drop1 HR.out (Nat.le_of_lt_succ (by have := HP.out; omega)) HC.out hnc) (bb HB)) | exact rows_len (by first | exact HTL.out | exact HDL.out) (Kd.C_below (C_drop1 HR.out (Nat.le_of_lt_succ (by have := HP.out; omega)) HC.out hnc) (bb HB))
      case aF => exact fun _ _ => trivial
      case aB => exact bb HB
      case aS => exact below_size (bb HB)
      case aL => have h1_ := HL.out; have h2_ := HP.out; simp only [List.length_append, List.length_take, List.length_drop, List.length_cons, List.length_nil]; omega
      intro v44 w44 ho hb hg hat
      have H44 := am ho
      replace HB := am hb
      clear H40 ho hb hg hat
      refine hK.out _ _ trivial (fun hHeld => ?_)
      clear hK K
      refine nP 44 ?_
      refine pM #[tt, tt, tt, tt, tt, tt, tt, tt, tt, tt, tt, tt, tt] 12 4 ?_
      refine done_ (by kernel_rfl) ?_
      go_wp2
      all_goals go_ret
      all_goals exact ⟨_, rfl, by have h_ := H44.out; simp only [List.append_assoc, List.singleton_append] at h_; rw [insL, ← HE.out]; exact h_, HB.out⟩
    ·refine Kd.R_lit_step (Kd.int .i64) _ 3 ?hg (N := 39) ?hd (xs := ([n] : List Int)) (inner := [.int .i64 n]) (ok := fun _ => True) (okp := fun _ => True) ?hr ?hp (fun _ hk => hk) trivial (Below.refl _ _) (Nat.le_refl _) (by simp) ?_
     case hd => rfl
     case hg => rfl
     case hr => first | (go_simp; done) | (go_simp; rfl)
     case hp => exact R1_lit _ _ _ n
     intro v39 w39 ho hb hg_ hnew_
     clear hg_ hnew_
     have H39 := am (Kd.R_lower (Kd.R_mono ho (ok' := fun k_ => True ∧ True) (fun _ _ => ⟨trivial, trivial⟩)) (below_size (bb HB)))
     replace HB := am (below_step (bb HB) hb)
     clear ho hb
     refine hK.out _ _ trivial (fun hHeld => ?_)
     clear hK K
     refine nP 39 ?_
     refine one_ (i := 0) (N := some 33) #[tt, tt, tt, tt, ff, tt, tt, ff, tt, tt, tt, ff, ff] rfl rfl (by kernel_rfl) (by decide) (fun K hK => ?_)
     refine Kd.R_lit_step (Kd.int .i64) _ 3 ?hg (N := 33) ?hd (xs := ([] : List Int)) (inner := []) (ok := fun _ => True) (okp := fun _ => True) ?hr ?hp (fun _ hk => hk) trivial (Below.refl _ _) (Nat.le_refl _) (by simp) ?_
     case hd => rfl
     case hg => rfl
     case hr => first | (go_simp; done) | (go_simp; rfl)
     case hp => exact (Reps.none _ _)
     intro v33 w33 ho hb hg_ hnew_
     clear hg_ hnew_
     have H33 := am (Kd.R_lower (Kd.R_new' ho (Kd.R_lt H39.out)) (below_size (bb HB)))
     replace H39 := am (Kd.R_elder' H39.out (Kd.R_base ho) hb)
     replace HB := am (below_step (bb HB) hb)
     clear ho hb
     refine hK.out _ _ trivial (fun hHeld => ?_)
     clear hK K
     refine nP 33 ?_
     refine one_ (i := 4) (N := some 37) #[tt, tt, tt, tt, tt, tt, tt, ff, tt, tt, tt, ff, ff] rfl rfl (by kernel_rfl) (by decide) (fun K hK => ?_)
     refine Kd.R_append_rows_step (Kd.int .i64) (w0 := w) w.heap.size (by rfl) (.tmp 33) (.tmp 36) 39 3 (.int .i64 0) 8 rfl Tryd.underlying39 info3 rfl (by decide) (by omega) _ [] (l.take kk) (some ad) kk c0 (fun _ => True) (fun _ => False) rfl rfl ?aO ?aR (fun _ _ h => h) (fun _ h => h.elim) ?aF ?aB ?aS ?aL ?_
     case aO => exact Kd.R_mono H33.out (fun _ _ => trivial)
     case aR => first | exact (Kd.C_below (Kd.C_take HR.out (Nat.le_of_lt_succ (by have := HP.out; omega))) (bb HB)) | exact rows_len (by first | exact HTL.out | exact HDL.out) (Kd.C_below (Kd.C_take HR.out (Nat.le_of_lt_succ (by have := HP.out; omega))) (bb HB))
     case aF => exact fun _ _ => trivial
     case aB => exact bb HB
     case aS => exact below_size (bb HB)
     case aL => have h1_ := HL.out; have h2_ := HP.out; simp only [List.length_append, List.length_take, List.length_drop, List.length_cons, List.length_nil]; omega
     intro v37 w37 ho hb hg hat
     have H37 := am ho
     replace H39 := am (Kd.R_after H39.out hg hat)
     replace HB := am hb
     clear H33 ho hb hg hat
     refine hK.out _ _ trivial (fun hHeld => ?_)
     clear hK K
     refine nP 37 ?_
     refine one_ (i := 7) (N := some 40) #[tt, tt, tt, tt, tt, tt, tt, tt, tt, tt, tt, ff, ff] rfl rfl (by kernel_rfl) (by decide) (fun K hK => ?_)
     obtain ⟨A39, c39, e39⟩ := Kd.R_slice H39.out
     subst e39
     refine Kd.R_append_rows_step (Kd.int .i64) (w0 := w) w.heap.size (by rfl) (.tmp 37) (.tmp 39) 39 3 (.int .i64 0) 8 rfl Tryd.underlying39 info3 rfl (by decide) (by omega) _ (l.take kk) [n] A39 [n].length c39 (fun _ => True) (fun _ => False) rfl rfl ?aO ?aR (fun _ _ h => h) (fun _ h => h.elim) ?aF ?aB ?aS ?aL ?_
     case aO => exact Kd.R_mono H37.out (fun _ _ => trivial)
     case aR => first | exact (Kd.R_reads' H39.out).2.2 | exact rows_len (by first | exact HTL.out | exact HDL.out) (Kd.R_reads' H39.out).2.2
     case aF => exact fun _ _ => trivial
     case aB => exact bb HB
     case aS => exact below_size (bb HB)
     case aL => have h1_ := HL.out; have h2_ := HP.out; simp only [List.length_append, List.length_take, List.length_drop, List.length_cons, List.length_nil]; omega
     intro v40 w40 ho hb hg hat
     have H40 := am ho
     replace H39 := am (Kd.R_after H39.out hg hat)
     replace HB := am hb
     clear H37 ho hb hg hat
     refine hK.out _ _ trivial (fun hHeld => ?_)
     clear hK K
     refine nP 40 ?_
     refine one_ (i := 11) (N := some 44) #[tt, tt, tt, tt, tt, tt, tt, tt, tt, tt, tt, tt, ff] rfl rfl (by kernel_rfl) (by decide) (fun K hK => ?_)
     refine Kd.R_append_rows_step (Kd.int .i64) (w0 := w) w.heap.size (by rfl) (.tmp 40) (.tmp 43) 39 3 (.int .i64 0) 8 rfl Tryd.underlying39 info3 rfl (by decide) (by omega) _ (l.take kk ++ [n]) (l.drop kk) (some (ad.add kk)) (l.length - kk) (c0 - kk) (fun _ => True) (fun _ => False) rfl rfl ?aO ?aR (fun _ _ h => h) (fun _ h => h.elim) ?aF ?aB ?aS ?aL ?_
     case aO => exact Kd.R_mono H40.out (fun _ _ => trivial)
     case aR => first | exact (Kd.C_below (C_drop1 HR.out (Nat.le_of_lt_succ (by have := HP.out; omega)) HC.out hnc) (bb HB)) | exact rows_len (by first | exact HTL.out | exact HDL.out) (Kd.C_below (C_drop1 HR.out (Nat.le_of_lt_succ (by have := HP.out; omega)) HC.out hnc) (bb HB))
     case aF => exact fun _ _ => trivial
     case aB => exact bb HB
     case aS => exact below_size (bb HB)
     case aL => have h1_ := HL.out; have h2_ := HP.out; simp only [List.length_append, List.length_take, List.length_drop, List.length_cons, List.length_nil]; omega
     intro v44 w44 ho hb hg hat
     have H44 := am ho
     replace HB := am hb
     clear H40 ho hb hg hat
     refine hK.out _ _ trivial (fun hHeld => ?_)
     clear hK K
     refine nP 44 ?_
     refine pM #[tt, tt, tt, tt, tt, tt, tt, tt, tt, tt, tt, tt, tt] 12 4 ?_
     refine done_ (by kernel_rfl) ?_
     go_wp2
     all_goals go_ret
     all_goals exact ⟨_, rfl, by have h_ := H44.out; simp only [List.append_assoc, List.singleton_append] at h_; rw [insL, ← HE.out]; exact h_, HB.out⟩
  ·obtain rfl : kk = p := by omega
   have ekl : kk = l.length := by omega
   subst ekl
   have hiz : ¬ (l.length : Int) < (l.length : Int) := by omega
   have h0z : 0 ≤ (l.length : Int) := by omega
   have c1b := decide_eq_false hiz
   have HTL := am (show (l.take l.length).length = l.length by rw [List.length_take]; omega)
   have HDL := am (show (l.drop l.length).length = 0 by rw [List.length_drop]; omega)
   have hpz : (l.length : Int) ≤ (l.length : Int) := by omega
   have h1z : (l.length : Int) ≤ (c0 : Int) := by omega
   have c5b := decide_eq_true hpz
   have hkc : (l.length ≤ c0) = True := eq_true (by omega)
   have hkl : (l.length ≤ l.length) = True := eq_true (by omega)
   have hll : (l.length ≤ c0) = True := eq_true (by omega)
   go_wp2
   refine start_ (n := 13) (S := fun _ => True) (ds := []) #[ff, ff, ff, ff, ff, ff, ff, ff, ff, ff, ff, ff, ff] (by kernel_rfl) rfl rfl trivial (fun hHeld => ?_)
   replace HB := am (below_drew1 HB.out)
   generalize wr.drew = wd at HB hHeld ⊢
   refine pM #[ff, tt, ff, ff, ff, ff, ff, ff, ff, ff, ff, ff, ff] 1 34 ?_
   refine pM #[ff, tt, tt, ff, ff, ff, ff, ff, ff, ff, ff, ff, ff] 2 35 ?_
   refine pM #[ff, tt, tt, ff, ff, tt, ff, ff, ff, ff, ff, ff, ff] 5 38 ?_
   refine pM #[ff, tt, tt, ff, ff, tt, ff, ff, tt, ff, ff, ff, ff] 8 41 ?_
   refine pM #[ff, tt, tt, ff, ff, tt, ff, ff, tt, tt, ff, ff, ff] 9 42 ?_
   refine pM #[ff, tt, tt, tt, ff, tt, ff, ff, tt, tt, ff, ff, ff] 3 36 ?_
   refine pM #[ff, tt, tt, tt, ff, tt, ff, ff, tt, tt, tt, ff, ff] 10 43 ?_
   refine two_ (i := 0) (j := 6) (Ni := some 33) (Nj := some 39) #[tt, tt, tt, tt, ff, tt, ff, ff, tt, tt, tt, ff, ff] #[ff, tt, tt, tt, ff, tt, tt, ff, tt, tt, tt, ff, ff] rfl rfl rfl rfl (by kernel_rfl) (by decide) (by decide) (fun K hK => ?_) (fun K hK => ?_)
   ·refine Kd.R_lit_step (Kd.int .i64) _ 3 ?hg (N := 33) ?hd (xs := ([] : List Int)) (inner := []) (ok := fun _ => True) (okp := fun _ => True) ?hr ?hp (fun _ hk => hk) trivial (Below.refl _ _) (Nat.le_refl _) (by simp) ?_
    case hd => rfl
    case hg => rfl
    case hr => first | (go_simp; done) | (go_simp; rfl)
    case hp => exact (Reps.none _ _)
    intro v33 w33 ho hb hg_ hnew_
    clear hg_ hnew_
    have H33 := am (Kd.R_lower (Kd.R_mono ho (ok' := fun k_ => True ∧ True) (fun _ _ => ⟨trivial, trivial⟩)) (below_size (bb HB)))
    replace HB := am (below_step (bb HB) hb)
    clear ho hb
    refine hK.out _ _ trivial (fun hHeld => ?_)
    clear hK K
    refine nP 33 ?_
    refine two_ (i := 4) (j := 6) (Ni := some 37) (Nj := some 39) #[tt, tt, tt, tt, tt, tt, ff, ff, tt, tt, tt, ff, ff] #[tt, tt, tt, tt, ff, tt, tt, ff, tt, tt, tt, ff, ff] rfl rfl rfl rfl (by kernel_rfl) (by decide) (by decide) (fun K hK => ?_) (fun K hK => ?_)
    ·refine Kd.R_append_rows_step (Kd.int .i64) (w0 := w) w.heap.size (by rfl) (.tmp 33) (.tmp 36) 39 3 (.int .i64 0) 8 rfl Tryd.underlying39 info3 rfl (by decide) (by omega) _ [] (l.take l.length) (some ad) l.length c0 (fun _ => True) (fun _ => False) rfl rfl ?aO ?aR (fun _ _ h => h) (fun _ h => h.elim) ?aF ?aB ?aS ?aL ?_
     case aO => exact Kd.R_mono H33.out (fun _ _ => trivial)
     case aR => first | exact (Kd.C_below (Kd.C_take HR.out (Nat.le_of_lt_succ (by have := HP.out; omega))) (bb HB)) | exact rows_len (by first | exact HTL.out | exact HDL.out) (Kd.C_below (Kd.C_take HR.out (Nat.le_of_lt_succ (by have := HP.out; omega))) (bb HB))
     case aF => exact fun _ _ => trivial
     case aB => exact bb HB
     case aS => exact below_size (bb HB)
     case aL => have h1_ := HL.out; have h2_ := HP.out; simp only [List.length_append, List.length_take, List.length_drop, List.length_cons, List.length_nil]; omega
     intro v37 w37 ho hb hg hat
     have H37 := am ho
     replace HB := am hb
     clear H33 ho hb hg hat
     refine hK.out _ _ trivial (fun hHeld => ?_)
     clear hK K
     refine nP 37 ?_
     refine one_ (i := 6) (N := some 39) #[tt, tt, tt, tt, tt, tt, tt, ff, tt, tt, tt, ff, ff] rfl rfl (by kernel_rfl) (by decide) (fun K hK => ?_)
     refine Kd.R_lit_step (Kd.int .i64) _ 3 ?hg (N := 39) ?hd (xs := ([n] : List Int)) (inner := [.int .i64 n]) (ok := fun _ => True) (okp := fun _ => True) ?hr ?hp (fun _ hk => hk) trivial (Below.refl _ _) (Nat.le_refl _) (by simp) ?_
     case hd => rfl
     case hg => rfl
     case hr => first | (go_simp; done) | (go_simp; rfl)
     case hp => exact R1_lit _ _ _ n
     intro v39 w39 ho hb hg_ hnew_
     clear hg_ hnew_
     have H39 := am (Kd.R_lower (Kd.R_new' ho (Kd.R_lt H37.out)) (below_size (bb HB)))
     replace H37 := am (Kd.R_elder' H37.out (Kd.R_base ho) hb)
     replace HB := am (below_step (bb HB) hb)
     clear ho hb
     refine hK.out _ _ trivial (fun hHeld => ?_)
     clear hK K
     refine nP 39 ?_
     refine one_ (i := 7) (N := some 40) #[tt, tt, tt, tt, tt, tt, tt, tt, tt, tt, tt, ff, ff] rfl rfl (by kernel_rfl) (by decide) (fun K hK => ?_)
     obtain ⟨A39, c39, e39⟩ := Kd.R_slice H39.out
     subst e39
     refine Kd.R_append_rows_step (Kd.int .i64) (w0 := w) w.heap.size (by rfl) (.tmp 37) (.tmp 39) 39 3 (.int .i64 0) 8 rfl Tryd.underlying39 info3 rfl (by decide) (by omega) _ (l.take l.length) [n] A39 [n].length c39 (fun _ => True) (fun _ => False) rfl rfl ?aO ?aR (fun _ _ h => h) (fun _ h => h.elim) ?aF ?aB ?aS ?aL ?_
     case aO => exact Kd.R_mono H37.out (fun _ _ => trivial)
     case aR => first | exact (Kd.R_reads' H39.out).2.2 | exact rows_len (by first | exact HTL.out | exact HDL.out) (Kd.R_reads' H39.out).2.2
     case aF => exact fun _ _ => trivial
     case aB => exact bb HB
     case aS => exact below_size (bb HB)
     case aL => have h1_ := HL.out; have h2_ := HP.out; simp only [List.length_append, List.length_take, List.length_drop, List.length_cons, List.length_nil]; omega
     intro v40 w40 ho hb hg hat
     have H40 := am ho
     replace H39 := am (Kd.R_after H39.out hg hat)
     replace HB := am hb
     clear H37 ho hb hg hat
     refine hK.out _ _ trivial (fun hHeld => ?_)
     clear hK K
     refine nP 40 ?_
     refine one_ (i := 11) (N := some 44) #[tt, tt, tt, tt, tt, tt, tt, tt, tt, tt, tt, tt, ff] rfl rfl (by kernel_rfl) (by decide) (fun K hK => ?_)
     refine Kd.R_append_rows_step (Kd.int .i64) (w0 := w) w.heap.size (by rfl) (.tmp 40) (.tmp 43) 39 3 (.int .i64 0) 8 rfl Tryd.underlying39 info3 rfl (by decide) (by omega) _ (l.take l.length ++ [n]) (l.drop l.length) (if c0 = l.length then some ad else some (ad.add l.length)) 0 (c0 - l.length) (fun _ => True) (fun _ => False) rfl rfl ?aO ?aR (fun _ _ h => h) (fun _ h => h.elim) ?aF ?aB ?aS ?aL ?_
     case aO => exact Kd.R_mono H40.out (fun _ _ => trivial)
     case aR => first | exact (Kd.C_below (C_drop2 HR.out (Nat.le_of_lt_succ (by have := HP.out; omega)) HC.out ) (bb HB)) | exact rows_len (by first | exact HTL.out | exact HDL.out) (Kd.C_below (C_drop2 HR.out (Nat.le_of_lt_succ (by have := HP.out; omega)) HC.out ) (bb HB))
     case aF => exact fun _ _ => trivial
     case aB => exact bb HB
     case aS => exact below_size (bb HB)
     case aL => have h1_ := HL.out; have h2_ := HP.out; simp only [List.length_append, List.length_take, List.length_drop, List.length_cons, List.length_nil]; omega
     intro v44 w44 ho hb hg hat
     have H44 := am ho
     replace HB := am hb
     clear H40 ho hb hg hat
     refine hK.out _ _ trivial (fun hHeld => ?_)
     clear hK K
     refine nP 44 ?_
     refine pM #[tt, tt, tt, tt, tt, tt, tt, tt, tt, tt, tt, tt, tt] 12 4 ?_
     refine done_ (by kernel_rfl) ?_
     go_wp2
     all_goals go_ret
     all_goals exact ⟨_, rfl, by have h_ := H44.out; simp only [List.append_assoc, List.singleton_append] at h_; rw [insL, ← HE.out]; exact h_, HB.out⟩
    ·refine Kd.R_lit_step (Kd.int .i64) _ 3 ?hg (N := 39) ?hd (xs := ([n] : List Int)) (inner := [.int .i64 n]) (ok := fun _ => True) (okp := fun _ => True) ?hr ?hp (fun _ hk => hk) trivial (Below.refl _ _) (Nat.le_refl _) (by simp) ?_
     case hd => rfl
     case hg => rfl
     case hr => first | (go_simp; done) | (go_simp; rfl)
     case hp => exact R1_lit _ _ _ n
     intro v39 w39 ho hb hg_ hnew_
     clear hg_ hnew_
     have H39 := am (Kd.R_lower (Kd.R_new' ho (Kd.R_lt H33.out)) (below_size (bb HB)))
     replace H33 := am (Kd.R_elder' H33.out (Kd.R_base ho) hb)
     replace HB := am (below_step (bb HB) hb)
     clear ho hb
     refine hK.out _ _ trivial (fun hHeld => ?_)
     clear hK K
     refine nP 39 ?_
     refine one_ (i := 4) (N := some 37) #[tt, tt, tt, tt, tt, tt, tt, ff, tt, tt, tt, ff, ff] rfl rfl (by kernel_rfl) (by decide) (fun K hK => ?_)
     refine Kd.R_append_rows_step (Kd.int .i64) (w0 := w) w.heap.size (by rfl) (.tmp 33) (.tmp 36) 39 3 (.int .i64 0) 8 rfl Tryd.underlying39 info3 rfl (by decide) (by omega) _ [] (l.take l.length) (some ad) l.length c0 (fun _ => True) (fun _ => False) rfl rfl ?aO ?aR (fun _ _ h => h) (fun _ h => h.elim) ?aF ?aB ?aS ?aL ?_
     case aO => exact Kd.R_mono H33.out (fun _ _ => trivial)
     case aR => first | exact (Kd.C_below (Kd.C_take HR.out (Nat.le_of_lt_succ (by have := HP.out; omega))) (bb HB)) | exact rows_len (by first | exact HTL.out | exact HDL.out) (Kd.C_below (Kd.C_take HR.out (Nat.le_of_lt_succ (by have := HP.out; omega))) (bb HB))
     case aF => exact fun _ _ => trivial
     case aB => exact bb HB
     case aS => exact below_size (bb HB)
     case aL => have h1_ := HL.out; have h2_ := HP.out; simp only [List.length_append, List.length_take, List.length_drop, List.length_cons, List.length_nil]; omega
     intro v37 w37 ho hb hg hat
     have H37 := am ho
     replace H39 := am (Kd.R_after H39.out hg hat)
     replace HB := am hb
     clear H33 ho hb hg hat
     refine hK.out _ _ trivial (fun hHeld => ?_)
     clear hK K
     refine nP 37 ?_
     refine one_ (i := 7) (N := some 40) #[tt, tt, tt, tt, tt, tt, tt, tt, tt, tt, tt, ff, ff] rfl rfl (by kernel_rfl) (by decide) (fun K hK => ?_)
     obtain ⟨A39, c39, e39⟩ := Kd.R_slice H39.out
     subst e39
     refine Kd.R_append_rows_step (Kd.int .i64) (w0 := w) w.heap.size (by rfl) (.tmp 37) (.tmp 39) 39 3 (.int .i64 0) 8 rfl Tryd.underlying39 info3 rfl (by decide) (by omega) _ (l.take l.length) [n] A39 [n].length c39 (fun _ => True) (fun _ => False) rfl rfl ?aO ?aR (fun _ _ h => h) (fun _ h => h.elim) ?aF ?aB ?aS ?aL ?_
     case aO => exact Kd.R_mono H37.out (fun _ _ => trivial)
     case aR => first | exact (Kd.R_reads' H39.out).2.2 | exact rows_len (by first | exact HTL.out | exact HDL.out) (Kd.R_reads' H39.out).2.2
     case aF => exact fun _ _ => trivial
     case aB => exact bb HB
     case aS => exact below_size (bb HB)
     case aL => have h1_ := HL.out; have h2_ := HP.out; simp only [List.length_append, List.length_take, List.length_drop, List.length_cons, List.length_nil]; omega
     intro v40 w40 ho hb hg hat
     have H40 := am ho
     replace H39 := am (Kd.R_after H39.out hg hat)
     replace HB := am hb
     clear H37 ho hb hg hat
     refine hK.out _ _ trivial (fun hHeld => ?_)
     clear hK K
     refine nP 40 ?_
     refine one_ (i := 11) (N := some 44) #[tt, tt, tt, tt, tt, tt, tt, tt, tt, tt, tt, tt, ff] rfl rfl (by kernel_rfl) (by decide) (fun K hK => ?_)
     refine Kd.R_append_rows_step (Kd.int .i64) (w0 := w) w.heap.size (by rfl) (.tmp 40) (.tmp 43) 39 3 (.int .i64 0) 8 rfl Tryd.underlying39 info3 rfl (by decide) (by omega) _ (l.take l.length ++ [n]) (l.drop l.length) (if c0 = l.length then some ad else some (ad.add l.length)) 0 (c0 - l.length) (fun _ => True) (fun _ => False) rfl rfl ?aO ?aR (fun _ _ h => h) (fun _ h => h.elim) ?aF ?aB ?aS ?aL ?_
     case aO => exact Kd.R_mono H40.out (fun _ _ => trivial)
     case aR => first | exact (Kd.C_below (C_drop2 HR.out (Nat.le_of_lt_succ (by have := HP.out; omega)) HC.out ) (bb HB)) | exact rows_len (by first | exact HTL.out | exact HDL.out) (Kd.C_below (C_drop2 HR.out (Nat.le_of_lt_succ (by have := HP.out; omega)) HC.out ) (bb HB))
     case aF => exact fun _ _ => trivial
     case aB => exact bb HB
     case aS => exact below_size (bb HB)
     case aL => have h1_ := HL.out; have h2_ := HP.out; simp only [List.length_append, List.length_take, List.length_drop, List.length_cons, List.length_nil]; omega
     intro v44 w44 ho hb hg hat
     have H44 := am ho
     replace HB := am hb
     clear H40 ho hb hg hat
     refine hK.out _ _ trivial (fun hHeld => ?_)
     clear hK K
     refine nP 44 ?_
     refine pM #[tt, tt, tt, tt, tt, tt, tt, tt, tt, tt, tt, tt, tt] 12 4 ?_
     refine done_ (by kernel_rfl) ?_
     go_wp2
     all_goals go_ret
     all_goals exact ⟨_, rfl, by have h_ := H44.out; simp only [List.append_assoc, List.singleton_append] at h_; rw [insL, ← HE.out]; exact h_, HB.out⟩
   ·refine Kd.R_lit_step (Kd.int .i64) _ 3 ?hg (N := 39) ?hd (xs := ([n] : List Int)) (inner := [.int .i64 n]) (ok := fun _ => True) (okp := fun _ => True) ?hr ?hp (fun _ hk => hk) trivial (Below.refl _ _) (Nat.le_refl _) (by simp) ?_
    case hd => rfl
    case hg => rfl
    case hr => first | (go_simp; done) | (go_simp; rfl)
    case hp => exact R1_lit _ _ _ n
    intro v39 w39 ho hb hg_ hnew_
    clear hg_ hnew_
    have H39 := am (Kd.R_lower (Kd.R_mono ho (ok' := fun k_ => True ∧ True) (fun _ _ => ⟨trivial, trivial⟩)) (below_size (bb HB)))
    replace HB := am (below_step (bb HB) hb)
    clear ho hb
    refine hK.out _ _ trivial (fun hHeld => ?_)
    clear hK K
    refine nP 39 ?_
    refine one_ (i := 0) (N := some 33) #[tt, tt, tt, tt, ff, tt, tt, ff, tt, tt, tt, ff, ff] rfl rfl (by kernel_rfl) (by decide) (fun K hK => ?_)
    refine Kd.R_lit_step (Kd.int .i64) _ 3 ?hg (N := 33) ?hd (xs := ([] : List Int)) (inner := []) (ok := fun _ => True) (okp := fun _ => True) ?hr ?hp (fun _ hk => hk) trivial (Below.refl _ _) (Nat.le_refl _) (by simp) ?_
    case hd => rfl
    case hg => rfl
    case hr => first | (go_simp; done) | (go_simp; rfl)
    case hp => exact (Reps.none _ _)
    intro v33 w33 ho hb hg_ hnew_
    clear hg_ hnew_
    have H33 := am (Kd.R_lower (Kd.R_new' ho (Kd.R_lt H39.out)) (below_size (bb HB)))
    replace H39 := am (Kd.R_elder' H39.out (Kd.R_base ho) hb)
    replace HB := am (below_step (bb HB) hb)
    clear ho hb
    refine hK.out _ _ trivial (fun hHeld => ?_)
    clear hK K
    refine nP 33 ?_
    refine one_ (i := 4) (N := some 37) #[tt, tt, tt, tt, tt, tt, tt, ff, tt, tt, tt, ff, ff] rfl rfl (by kernel_rfl) (by decide) (fun K hK => ?_)
    refine Kd.R_append_rows_step (Kd.int .i64) (w0 := w) w.heap.size (by rfl) (.tmp 33) (.tmp 36) 39 3 (.int .i64 0) 8 rfl Tryd.underlying39 info3 rfl (by decide) (by omega) _ [] (l.take l.length) (some ad) l.length c0 (fun _ => True) (fun _ => False) rfl rfl ?aO ?aR (fun _ _ h => h) (fun _ h => h.elim) ?aF ?aB ?aS ?aL ?_
    case aO => exact Kd.R_mono H33.out (fun _ _ => trivial)
    case aR => first | exact (Kd.C_below (Kd.C_take HR.out (Nat.le_of_lt_succ (by have := HP.out; omega))) (bb HB)) | exact rows_len (by first | exact HTL.out | exact HDL.out) (Kd.C_below (Kd.C_take HR.out (Nat.le_of_lt_succ (by have := HP.out; omega))) (bb HB))
    case aF => exact fun _ _ => trivial
    case aB => exact bb HB
    case aS => exact below_size (bb HB)
    case aL => have h1_ := HL.out; have h2_ := HP.out; simp only [List.length_append, List.length_take, List.length_drop, List.length_cons, List.length_nil]; omega
    intro v37 w37 ho hb hg hat
    have H37 := am ho
    replace H39 := am (Kd.R_after H39.out hg hat)
    replace HB := am hb
    clear H33 ho hb hg hat
    refine hK.out _ _ trivial (fun hHeld => ?_)
    clear hK K
    refine nP 37 ?_
    refine one_ (i := 7) (N := some 40) #[tt, tt, tt, tt, tt, tt, tt, tt, tt, tt, tt, ff, ff] rfl rfl (by kernel_rfl) (by decide) (fun K hK => ?_)
    obtain ⟨A39, c39, e39⟩ := Kd.R_slice H39.out
    subst e39
    refine Kd.R_append_rows_step (Kd.int .i64) (w0 := w) w.heap.size (by rfl) (.tmp 37) (.tmp 39) 39 3 (.int .i64 0) 8 rfl Tryd.underlying39 info3 rfl (by decide) (by omega) _ (l.take l.length) [n] A39 [n].length c39 (fun _ => True) (fun _ => False) rfl rfl ?aO ?aR (fun _ _ h => h) (fun _ h => h.elim) ?aF ?aB ?aS ?aL ?_
    case aO => exact Kd.R_mono H37.out (fun _ _ => trivial)
    case aR => first | exact (Kd.R_reads' H39.out).2.2 | exact rows_len (by first | exact HTL.out | exact HDL.out) (Kd.R_reads' H39.out).2.2
    case aF => exact fun _ _ => trivial
    case aB => exact bb HB
    case aS => exact below_size (bb HB)
    case aL => have h1_ := HL.out; have h2_ := HP.out; simp only [List.length_append, List.length_take, List.length_drop, List.length_cons, List.length_nil]; omega
    intro v40 w40 ho hb hg hat
    have H40 := am ho
    replace H39 := am (Kd.R_after H39.out hg hat)
    replace HB := am hb
    clear H37 ho hb hg hat
    refine hK.out _ _ trivial (fun hHeld => ?_)
    clear hK K
    refine nP 40 ?_
    refine one_ (i := 11) (N := some 44) #[tt, tt, tt, tt, tt, tt, tt, tt, tt, tt, tt, tt, ff] rfl rfl (by kernel_rfl) (by decide) (fun K hK => ?_)
    refine Kd.R_append_rows_step (Kd.int .i64) (w0 := w) w.heap.size (by rfl) (.tmp 40) (.tmp 43) 39 3 (.int .i64 0) 8 rfl Tryd.underlying39 info3 rfl (by decide) (by omega) _ (l.take l.length ++ [n]) (l.drop l.length) (if c0 = l.length then some ad else some (ad.add l.length)) 0 (c0 - l.length) (fun _ => True) (fun _ => False) rfl rfl ?aO ?aR (fun _ _ h => h) (fun _ h => h.elim) ?aF ?aB ?aS ?aL ?_
    case aO => exact Kd.R_mono H40.out (fun _ _ => trivial)
    case aR => first | exact (Kd.C_below (C_drop2 HR.out (Nat.le_of_lt_succ (by have := HP.out; omega)) HC.out ) (bb HB)) | exact rows_len (by first | exact HTL.out | exact HDL.out) (Kd.C_below (C_drop2 HR.out (Nat.le_of_lt_succ (by have := HP.out; omega)) HC.out ) (bb HB))
    case aF => exact fun _ _ => trivial
    case aB => exact bb HB
    case aS => exact below_size (bb HB)
    case aL => have h1_ := HL.out; have h2_ := HP.out; simp only [List.length_append, List.length_take, List.length_drop, List.length_cons, List.length_nil]; omega
    intro v44 w44 ho hb hg hat
    have H44 := am ho
    replace HB := am hb
    clear H40 ho hb hg hat
    refine hK.out _ _ trivial (fun hHeld => ?_)
    clear hK K
    refine nP 44 ?_
    refine pM #[tt, tt, tt, tt, tt, tt, tt, tt, tt, tt, tt, tt, tt] 12 4 ?_
    refine done_ (by kernel_rfl) ?_
    go_wp2
    all_goals go_ret
    all_goals exact ⟨_, rfl, by have h_ := H44.out; simp only [List.append_assoc, List.singleton_append] at h_; rw [insL, ← HE.out]; exact h_, HB.out⟩
end Go.Proofs.YthnchjgffocigaaDoor.P
end
