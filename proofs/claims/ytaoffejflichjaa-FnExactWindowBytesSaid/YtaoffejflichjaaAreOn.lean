/- The contracts of slices.IndexFunc and slices.ContainsFunc at windows, for whatever predicate pays PredB; and of areOn, whose closure pays it. Walked by hand. -/
import Derived.Test.YtaoffejflichjaaPx4
import Derived.Test.YtaoffejflichjaaPx5
import Derived.Test.YtaoffejflichjaaPx0
import Derived.Test.YtaoffejflichjaaWin
import Derived.Lib.Hide
import Derived.Shelf.Abstract
namespace Go.Proofs.Ytaoffejflichjaa.P
open Go.RowKit Go.Proofs.YtaoffejflichjaaW.PrintWords Go.Proofs.YtaoffejflichjaaW.PrintLast Go.Proofs.YtaoffejflichjaaW.PrintMore
set_option linter.unusedVariables false
set_option linter.unusedSimpArgs false
abbrev WinV (x : S33) : Value := .agg #[.int .i64 x.f0, .int .i64 x.f1, .int .i64 x.f2, .int .i64 x.f3]
/-- What is asked of a predicate on windows: at every later world it answers p and makes at most memory of its own. -/
def PredB (g : Nat) (lb : Array Value) (p : S33 → Bool) (w : World) : Prop :=
  ∀ (W : World) (x : S33), Below w.heap.size w W → Calls Try.prog g (#[WinV x] ++ lb) W fun e w' => e = .returned (.bool (p x)) ∧ Below w.heap.size w w'
/-- The first place where p holds, or -1. -/
def firstAt (p : S33 → Bool) : List S33 → Int → Int
  | [], _ => -1
  | x :: xs, i => if p x = true then i else firstAt p xs (i + 1)
theorem firstAt_any (p : S33 → Bool) (l : List S33) : ∀ i : Int, 0 ≤ i → decide (0 ≤ firstAt p l i) = l.any p := by
  induction l with
  | nil => intro i h; rfl
  | cons x xs ih =>
    intro i h
    unfold firstAt
    rw [List.any_cons]
    cases hx : p x with
    | true => rw [if_pos rfl]; simpa using h
    | false => rw [if_neg (by simp), ih (i + 1) (by omega)]; rfl
theorem firstAt_drop (p : S33 → Bool) (l : List S33) (k : Nat) (h : k < l.length) : firstAt p (l.drop k) k = if p (rd_T33 l (k : Int)) = true then (k : Int) else firstAt p (l.drop (k + 1)) ((k + 1 : Nat) : Int) := by
  rw [drop_cons l z33 k h, firstAt]
  rfl
set_option maxHeartbeats 2000000 in
set_option maxRecDepth 100000 in
theorem indexFunc.calls (g : Nat) (lb : Array Value) (p : S33 → Bool) (A0 : Option Addr) (c0 : Nat) (l : List S33) (w : World) (eg : ∀ args w, (callFunc g args).run Try.prog w = .ok (.enter g args) w)
    (hp : PredB g lb p w) (hr : Kd.C k33 w A0 l.length l) :
    Calls Try.prog 107 #[.slice A0 l.length c0, .func (.func g) #[] lb] w fun e w' => e = .returned (.int .i64 (firstAt p l 0)) ∧ Below w.heap.size w w' := by
  have hmax : l.length ≤ 9223372036854775807 := hr.2.1
  have HP := Aside0.mk hp
  have HR := Aside0.mk hr
  clear hp hr
  go_enter Try.func107, Try.ntmps107
  go_wp2
  go_loopg [5, 8] l.length (fun gg _ s8 wr => ∃ kk : Nat, kk ≤ l.length ∧ l.length - kk ≤ gg ∧ s8 = .int .i64 kk ∧ Aside0 (Below w.heap.size w wr) ∧ Aside0 (firstAt p l 0 = firstAt p (l.drop kk) kk))
  case atStart => exact ⟨0, Nat.zero_le _, by omega, rfl, ⟨Below.refl _ w⟩, ⟨rfl⟩⟩
  case round =>
    obtain ⟨kk, hkk, hg, rfl, BW, HK⟩ := hrel
    by_cases hlt : kk < l.length
    · have hltz : (kk : Int) < (l.length : Int) := by omega
      obtain ⟨ad, e0, x0, x1, x2, x3⟩ := at_T33 (Kd.C_below HR.out BW.out) (kk : Int) (by omega) hltz
      cases e0
      simp only [Int.toNat_natCast] at x0 x1 x2 x3
      have hcall := HP.out wr (rd_T33 l (kk : Int)) BW.out
      have HK2 := Aside0.mk (HK.out.trans (firstAt_drop p l kk hlt))
      clear HK
      generalize hy : rd_T33 l (kk : Int) = y at x0 x1 x2 x3 hcall HK2
      clear hy
      cases hq : p y with
      | true =>
        have HQ := Aside0.mk hq
        clear hq
        rw [HQ.out] at hcall
        go_wp2_with (go_at_fn g; refine hcall.mono ?_; rintro e w' ⟨rfl, hb'⟩)
        go_ret
        refine ⟨?_, hb'⟩
        rw [HK2.out, if_pos HQ.out]
        rfl
      | false =>
        have HQ := Aside0.mk hq
        clear hq
        rw [HQ.out] at hcall
        go_wp2_with (go_at_fn g; refine hcall.mono ?_; rintro e w' ⟨rfl, hb'⟩)
        go_roundg (l.length - (kk + 1))
        case measure => omega
        case rel => exact ⟨kk + 1, by omega, by omega, by go_num, ⟨hb'⟩, ⟨by rw [HK2.out, if_neg (by rw [HQ.out]; simp)]⟩⟩
    · have hltz : ¬ (kk : Int) < (l.length : Int) := by omega
      go_wp2
      go_ret
      refine ⟨?_, BW.out⟩
      rw [HK.out, List.drop_eq_nil_of_le (by omega)]
      rfl
set_option maxHeartbeats 2000000 in
theorem containsFunc.calls (g : Nat) (lb : Array Value) (p : S33 → Bool) (A0 : Option Addr) (c0 : Nat) (l : List S33) (w : World) (eg : ∀ args w, (callFunc g args).run Try.prog w = .ok (.enter g args) w)
    (hp : PredB g lb p w) (hr : Kd.C k33 w A0 l.length l) :
    Calls Try.prog 94 #[.slice A0 l.length c0, .func (.func g) #[] lb] w fun e w' => e = .returned (.bool (l.any p)) ∧ Below w.heap.size w w' := by
  have HP := Aside0.mk hp
  have HR := Aside0.mk hr
  clear hp hr
  have HE := Aside0.mk (firstAt_any p l 0 (Int.le_refl _))
  go_enter Try.func94, Try.ntmps94
  go_wp2_with (go_at_call 107; (with_reducible refine (indexFunc.calls g lb p _ _ l _ eg HP.out HR.out).mono ?_); rintro e w' ⟨rfl, hb'⟩)
  go_ret
  refine ⟨?_, hb'⟩
  rw [← HE.out]
  rfl
/-- The closure of areOn: is the window off the memory that lies in block b? -/
theorem areOn1.calls (b : Nat) (A0 : Option Addr) (c0 : Nat) (m : List (List Int)) (hm : Fit m) (x : S33) (w : World) (hb : w.heap[b]? = some (.cells #[.slice A0 m.length c0] 31 (0, 0))) (hr : Kd.C (Kd.slice 5 (Kd.int .u8)) w A0 m.length m) (hc : m.length ≤ c0) :
    Calls Try.prog 95 #[WinV x, .pointer (some ⟨b, 0, none⟩)] w fun e w' => e = .returned (.bool (!winOn m x.f0 x.f1 x.f2 x.f3)) ∧ Below w.heap.size w w' := by
  have HR := Aside0.mk hr
  have HC := Aside0.mk hc
  have hcell : w.cell? ⟨b, 0, none⟩ = some (.slice A0 m.length c0) := (blk_cell hb 0).trans rfl
  have hlt : b < w.heap.size := blk_lt hb
  clear hr hc hb
  have HW := Aside0.mk (hasWin m hm x.f0 x.f1 x.f2 x.f3)
  go_enter Try.func95, Try.ntmps95
  go_wp2_with (go_at_call 96; (with_reducible refine (impl_Memory_hasWindow.calls _ _ m x.f0 x.f1 x.f2 x.f3 _ _ ?s1 ?s2 HW.out).mono ?_); (case s1 => exact Kd.C_alloc HR.out _); (case s2 => exact HC.out); rintro e w' ⟨rfl, hb'⟩)
  go_ret
  exact ⟨rfl, below_step (below_alloc (Below.refl _ _) _) hb'⟩
/-- What areOn answers. -/
def impl_areOn.f (k : Nat) (m : List (List Int)) (l : List S33) : Option Bool :=
  if m.length ≤ 9223372036854775807 then (impl_IsMemory.f k m).bind fun t => if t = true then some (!l.any fun x => !winOn m x.f0 x.f1 x.f2 x.f3) else some false else none
theorem impl_areOn.mono : ∀ a0 a1 k, LeO (impl_areOn.f k a0 a1) (impl_areOn.f (k + 1) a0 a1) := by
  intro a0 a1 k
  unfold impl_areOn.f
  refine LeO.ite ?_ (LeO.none _)
  exact LeO.bind (impl_IsMemory.mono _ _) (fun _ => LeO.refl _)
set_option maxHeartbeats 2000000 in
theorem areOn_yes (A0 : Option Addr) (c0 : Nat) (m : List (List Int)) (A1 : Option Addr) (c1 : Nat) (l : List S33) (k : Nat) (w : World) (hm : Fit m) (hr0 : Kd.C (Kd.slice 5 (Kd.int .u8)) w A0 m.length m) (hc0 : m.length ≤ c0)
    (hr1 : Kd.C k33 w A1 l.length l) (hc1 : l.length ≤ c1) (h : impl_IsMemory.f k m = some true) :
    Calls Try.prog 56 #[.agg #[.slice A0 m.length c0], .slice A1 l.length c1] w fun e w' => e = .returned (.bool (!l.any fun x => !winOn m x.f0 x.f1 x.f2 x.f3)) ∧ Below w.heap.size w w' := by
  have HR0 := Aside0.mk hr0
  have HC0 := Aside0.mk hc0
  have HR1 := Aside0.mk hr1
  have H := Aside0.mk h
  have HM := Aside0.mk hm
  clear hr0 hc0 hr1 hc1 h hm
  have eg := enters_of Try.func95 (by kernel_rfl) rfl
  go_enter Try.func56, Try.ntmps56
  go_wp2_with (first | (go_at_call 84; (with_reducible refine (impl_IsMemory.calls k _ _ m true _ ?s1 ?s2 H.out).mono ?_); (case s1 => exact Kd.C_alloc HR0.out _); (case s2 => exact HC0.out); rintro e w1 ⟨rfl, hb1⟩; have HK1 := Aside0.mk (blk_below (blk_new w (.cells #[.slice A0 m.length c0] 31)) hb1); have HB1 := Aside0.mk (below_step (below_alloc (Below.refl w.heap.size w) _) hb1); clear hb1) | (go_at_call 94; (refine (containsFunc.calls 95 #[.pointer (some ⟨w.heap.size, 0, none⟩)] (fun x => !winOn m x.f0 x.f1 x.f2 x.f3) _ _ l _ eg ?s3 ?s4).mono ?_); (case s3 => exact (fun W x hW => (areOn1.calls w.heap.size A0 c0 m HM.out x W (blk_below HK1.out hW) (Kd.C_below (Kd.C_below HR0.out HB1.out) hW) HC0.out).mono fun e w' ⟨he, hb⟩ => ⟨he, below_step hW hb⟩)); (case s4 => exact Kd.C_below HR1.out HB1.out); rintro e w2 ⟨rfl, hb2⟩; have HB2 := Aside0.mk (below_step HB1.out hb2); clear hb2))
  go_ret
  exact ⟨rfl, HB2.out⟩
set_option maxHeartbeats 2000000 in
theorem areOn_no (A0 : Option Addr) (c0 : Nat) (m : List (List Int)) (A1 : Option Addr) (c1 : Nat) (l : List S33) (k : Nat) (w : World) (hr0 : Kd.C (Kd.slice 5 (Kd.int .u8)) w A0 m.length m) (hc0 : m.length ≤ c0)
    (h : impl_IsMemory.f k m = some false) :
    Calls Try.prog 56 #[.agg #[.slice A0 m.length c0], .slice A1 l.length c1] w fun e w' => e = .returned (.bool false) ∧ Below w.heap.size w w' := by
  have HR0 := Aside0.mk hr0
  have HC0 := Aside0.mk hc0
  have H := Aside0.mk h
  clear hr0 hc0 h
  go_enter Try.func56, Try.ntmps56
  go_wp2_with (first | (go_at_call 84; (with_reducible refine (impl_IsMemory.calls k _ _ m false _ ?s1 ?s2 H.out).mono ?_); (case s1 => exact Kd.C_alloc HR0.out _); (case s2 => exact HC0.out); rintro e w1 ⟨rfl, hb1⟩; have HB1 := Aside0.mk (below_step (below_alloc (Below.refl w.heap.size w) _) hb1); clear hb1))
  go_ret
  exact ⟨rfl, HB1.out⟩
theorem fit_of_C {e : Nat} {w : World} {A : Option Addr} {n : Nat} {m : List (List Int)} (h : Kd.C (Kd.slice e (Kd.int .u8)) w A n m) : Fit m := by
  refine ⟨by have := h.1; have := h.2.1; omega, fun a ha => ?_⟩
  obtain ⟨i, hi, rfl⟩ := List.getElem_of_mem ha
  obtain ⟨ad, _, hc⟩ := h.2.2 (by have := h.1; omega)
  obtain ⟨c, _, ⟨A', c', _, _, hC⟩, _⟩ := hc i m[i] (List.getElem?_eq_getElem hi)
  exact hC.2.1
/-- The contract, as the printed callers take it. -/
theorem impl_areOn.calls (k : Nat) (A0_0 : Option Addr) (c0_0 : Nat) (l0_0 : List (List Int)) (A1 : Option Addr) (c1 : Nat) (l1 : List S33) (r : Bool) (w : World) (hr0_0 : Kd.C (Kd.slice 5 (Kd.int .u8)) w A0_0 l0_0.length l0_0) (hc0_0 : l0_0.length ≤ c0_0)
    (hr1 : Kd.C k33 w A1 l1.length l1) (hc1 : l1.length ≤ c1) (h : impl_areOn.f k l0_0 l1 = some r) :
    Calls Try.prog 56 #[.agg #[.slice A0_0 l0_0.length c0_0], .slice A1 l1.length c1] w fun e w' => e = .returned (.bool r) ∧ Below w.heap.size w w' := by
  unfold impl_areOn.f at h
  have hm := fit_of_C hr0_0
  rw [if_pos hm.1] at h
  obtain ⟨b, hb, h⟩ := Option.bind_eq_some_iff.mp h
  cases b with
  | true =>
    rw [if_pos rfl] at h
    obtain rfl := Option.some.inj h
    exact areOn_yes A0_0 c0_0 l0_0 A1 c1 l1 k w hm hr0_0 hc0_0 hr1 hc1 hb
  | false =>
    rw [if_neg (by simp)] at h
    obtain rfl := Option.some.inj h
    exact areOn_no A0_0 c0_0 l0_0 A1 c1 l1 k w hr0_0 hc0_0 hb
/-- Both tests of windows are one: what areOn answers. -/
theorem areOn_ev (m : List (List Int)) (hm : Fit m) (l : List S33) : Ev (fun k => impl_areOn.f k m l) (memOk m && l.all fun x => winOn m x.f0 x.f1 x.f2 x.f3) := by
  obtain ⟨K, hK⟩ := isMem m hm.1
  refine ⟨K, fun k hk => ?_⟩
  have e1 := hK k hk
  dsimp only at e1 ⊢
  unfold impl_areOn.f
  rw [if_pos hm.1, e1]
  simp only [Option.bind_some]
  cases memOk m with
  | true => simp [List.all_eq_not_any_not]
  | false => simp
end Go.Proofs.Ytaoffejflichjaa.P
