/- The contract of laws.markByteSS and laws.markMemory: rows of bytes are written, nothing else. Walked by hand. -/
import Derived.Test.YtlcikalgphafaaaDoorPx8
namespace Go.Proofs.YtlcikalgphafaaaDoor.P
open Go.RowKit Go.Proofs.YtlcikalgphafaaaDoorW.PrintWords Go.Proofs.YtlcikalgphafaaaDoorW.PrintLast Go.Proofs.YtlcikalgphafaaaDoorW.PrintMore
set_option linter.unusedVariables false
set_option linter.unusedSimpArgs false
attribute [local go_sem] pset_drewN
def laws_markByteSS.l0 : Nat → List (List Int) → Int → Int → Option (Int × List (List Int))
  | 0, _, _, _ => none
  | k + 1, x0, x1, x5 => if x5 < (x0.length : Int) then (if 0 ≤ x5 then ((laws_markByteS.f k (rd_L1 x0 x5) x1).bind fun t => laws_markByteSS.l0 k (x0.set x5.toNat t.2) t.1 (wrap64 (x5 + 1))) else none) else some (x1, x0)
def laws_markByteSS.f (k : Nat) (l0 : List (List Int)) (a1 : Int) : Option (Int × List (List Int)) := laws_markByteSS.l0 k l0 a1 0
def laws_markMemory.f (k : Nat) (l0 : List (List Int)) (a1 : Int) : Option (Int × List (List Int)) := laws_markByteSS.f k l0 a1
set_option maxHeartbeats 4000000 in
set_option maxRecDepth 100000 in
theorem laws_markByteSS.calls (k : Nat) (P0_ : Nat → Prop) (u : Value) (l0 : List (List Int)) (a1 : Int) (r1 : Int) (r2 : List (List Int)) (w0 w : World) (hB : Below w0.heap.size w0 w) (ho0 : Kd.S (Kd.slice 5 (Kd.int .u8)) 22 w w0.heap.size P0_ u l0) (h : laws_markByteSS.f k l0 a1 = some (r1, r2)) :
    Calls Tryd.prog 87 #[u, .int .i64 a1] w fun e w' => e = .returned (.int .i64 r1) ∧ Kd.S (Kd.slice 5 (Kd.int .u8)) 22 w' w0.heap.size P0_ u r2 ∧ Below w0.heap.size w0 w' ∧ Kept w w' P0_ := by
  obtain ⟨A, c, rfl⟩ := Kd.R_slice (Kd.S_R ho0)
  have hmax : l0.length ≤ 9223372036854775807 := by
    obtain ⟨A', c', _, _, h3⟩ := Kd.R_reads (Kd.S_R ho0)
    exact Kd.C_max h3
  have HS0 := Aside0.mk ho0
  have HB0 := Aside0.mk hB
  have H' := Aside0.mk h
  obtain ⟨n, hn⟩ : ∃ n, n = l0.length := ⟨_, rfl⟩
  have HN := Aside0.mk hn
  rw [← hn] at hmax ⊢
  clear ho0 hB h hn
  go_enter Tryd.func87, Tryd.ntmps87
  go_wp2
  go_loopg [1, 5] k (fun kq v1 v5 wr => ∃ (x1_1 x5_1 : Int) (y : List (List Int)), v1 = .int .i64 x1_1 ∧ v5 = .int .i64 x5_1 ∧ Aside0 (laws_markByteSS.l0 kq y x1_1 x5_1 = some (r1, r2)) ∧ Aside0 (kq ≤ k) ∧ Aside0 (y.length = n) ∧ Aside0 (Kd.S (Kd.slice 5 (Kd.int .u8)) 22 wr w0.heap.size P0_ (.slice A n c) y) ∧ Aside0 (Below w0.heap.size w0 wr) ∧ Aside0 (Kept w wr P0_))
  case atStart => exact ⟨a1, 0, l0, rfl, rfl, H', ⟨Nat.le_refl _⟩, ⟨HN.out.symm⟩, ⟨by rw [HN.out]; exact HS0.out⟩, HB0, ⟨Kept.refl _ _⟩⟩
  case round =>
    clear HS0 HB0 H' HN
    obtain ⟨x1_1, x5_1, y, rfl, rfl, HA, HK1, HY, HS, HB, HK⟩ := hrel
    cases gk with
    | zero => exact absurd HA.out (by simp [laws_markByteSS.l0])
    | succ k1 =>
      have H := HA.out
      clear HA
      simp only [laws_markByteSS.l0] at H
      rw [HY.out] at H
      by_cases c6 : x5_1 < (n : Int)
      · rw [if_pos c6] at H
        have c6b0 : decide (x5_1 < (n : Int)) = true := decide_eq_true c6
        by_cases c7 : 0 ≤ x5_1
        · rw [if_pos c7] at H
          have c7b0 : decide (0 ≤ x5_1) = true := decide_eq_true c7
          replace H := Option.bind_eq_some_iff.mp H
          obtain ⟨⟨q1, q2⟩, e1, H⟩ := H
          have A8 := Aside0.mk e1
          have H' := Aside0.mk H
          clear e1 H
          rcases A with _ | ad
          · have h3 := Kd.R_reads' (Kd.S_R HS.out)
            obtain ⟨ad, e, _⟩ := h3.2.2.2.2 (by omega)
            cases e
          obtain ⟨g, rfl⟩ := Kd.R_head (Kd.S_R HS.out)
          obtain ⟨oki, cs, hcl, hM, hcc, hoki, hH⟩ := Kd.S_lend HS.out [] x5_1 c7 c6
          obtain ⟨row, hrow⟩ : ∃ row, row = y.getD x5_1.toNat [] := ⟨_, rfl⟩
          rw [← hrow] at hM
          have A9 := Aside0.mk (show laws_markByteS.f k1 row x1_1 = some (q1, q2) by rw [hrow]; exact A8.out)
          clear hrow A8
          obtain ⟨v, rfl, hR⟩ := hM
          obtain ⟨Av, cv, rfl⟩ := Kd.R_slice hR
          have hx := hcc 0 _ rfl
          simp only [Nat.add_zero] at hx
          have hx2 : wr.cell? ⟨g, x5_1.toNat, none⟩ = some (.slice Av row.length cv) := by have e : x5_1.toNat * (Kd.slice 5 (Kd.int .u8)).sz = x5_1.toNat := Nat.mul_one _; rw [e] at hx; exact hx
          have HR := Aside0.mk hR
          have HH := Aside0.mk hH
          have HO := Aside0.mk hoki
          clear hcl hcc hx hR hH hoki HS
          replace c6 := eq_true c6
          replace c7 := eq_true c7
          go_wp2_with (first | (go_at_call 110; (with_reducible refine (laws_markByteS.calls k1 oki _ row x1_1 q1 q2 w0 _ ?side1 ?side2 A9.out).mono ?_); (case side1 => exact HB.out); (case side2 => exact HR.out); rintro e w2 ⟨rfl, h1, h2, h3⟩; have HR2 := Aside0.mk h1; have HB2 := Aside0.mk h2; have HK2 := Aside0.mk h3; clear h1 h2 h3))
          go_roundg k1
          case measure => have := HK1.out; omega
          case rel =>
            refine ⟨q1, wrap64 (x5_1 + 1), y.set x5_1.toNat q2, (by first | rfl | (simp; done)), (by first | rfl | (simp; done)), H', ⟨by have := HK1.out; omega⟩, ⟨by rw [List.length_set]; exact HY.out⟩, ⟨?_⟩, HB2, ⟨HK.out.then_ HK2.out (fun k hk => .inl (HO.out k hk).1)⟩⟩
            refine Kd.H_back (okp := oki) (Kd.H_step HH.out (fun k h1 h2 h3 => HK2.out.2 k h3 h2)) ?_ (fun _ h => h)
            exact ⟨_, rfl, Kd.R_mono (Kd.R_tight rfl HR2.out) (fun k hk => HR.out.1 k hk.symm)⟩
        · rw [if_neg c7] at H
          exact absurd H (by simp)
      · rw [if_neg c6] at H
        have c6b0 : decide (x5_1 < (n : Int)) = false := decide_eq_false c6
        clear c6
        have e := Option.some.inj H
        have e1 : x1_1 = r1 := congrArg Prod.fst e
        have e2 : y = r2 := congrArg Prod.snd e
        subst e1
        subst e2
        clear H e
        go_wp2
        go_ret
        exact ⟨rfl, HS.out, HB.out, HK.out⟩
set_option maxHeartbeats 4000000 in
set_option maxRecDepth 100000 in
theorem laws_markMemory.calls (k : Nat) (P0_ : Nat → Prop) (u : Value) (l0 : List (List Int)) (a1 : Int) (r1 : Int) (r2 : List (List Int)) (w0 w : World) (hB : Below w0.heap.size w0 w) (ho0 : Kd.S (Kd.slice 5 (Kd.int .u8)) 22 w w0.heap.size P0_ u l0) (h : laws_markMemory.f k l0 a1 = some (r1, r2)) :
    Calls Tryd.prog 49 #[.agg #[u], .int .i64 a1] w fun e w' => e = .returned (.int .i64 r1) ∧ Kd.S (Kd.slice 5 (Kd.int .u8)) 22 w' w0.heap.size P0_ u r2 ∧ Below w0.heap.size w0 w' ∧ Kept w w' P0_ := by
  have hu31 := Tryd.underlying43
  obtain ⟨A, c, rfl⟩ := Kd.R_slice (Kd.S_R ho0)
  have HS := Aside0.mk ho0
  have HB := Aside0.mk hB
  have H := Aside0.mk (show laws_markByteSS.f k l0 a1 = some (r1, r2) from h)
  obtain ⟨n, hn⟩ : ∃ n, n = l0.length := ⟨_, rfl⟩
  rw [← hn] at HS ⊢
  clear ho0 hB h hn
  go_enter Tryd.func49, Tryd.ntmps49
  go_wp2_with (first | (go_at_call 87; (with_reducible refine (laws_markByteSS.calls k P0_ _ l0 a1 r1 r2 w0 _ ?side1 ?side2 H.out).mono ?_); (case side1 => exact HB.out.alloc HB.out.size _); (case side2 => exact Kd.S_alloc HS.out _); rintro e w2 ⟨rfl, h1, h2, h3⟩; have HR2 := Aside0.mk h1; have HB2 := Aside0.mk h2; have HK2 := Aside0.mk h3; clear h1 h2 h3))
  go_ret
  refine ⟨rfl, HR2.out, HB2.out, ?_⟩
  have e := Kept.of_below (below_alloc (Below.refl w.heap.size w) (.cells #[.slice A n c] 43 (0, 0))) P0_
  exact e.then_ HK2.out (fun k hk => .inl hk)
end Go.Proofs.YtlcikalgphafaaaDoor.P
