/- The texts YtaoffejflichjaaPureFnExactChangedSince, YtaoffejflichjaaRowFnExactChangedSince, without what the row does not need: words for rows in memory, contracts of functions, plain lemmas, the row. -/
import Derived.Test.YtaoffejflichjaaZChangedSince5
import Derived.Lib.Bytes
import Derived.Test.YtaoffejflichjaaRows
import Derived.WalkKit
import Derived.ProofKit
import Derived.OpenShut
import Derived.ShutString
import Derived.ChangeOld
import Derived.Below
import Derived.SizedLaws
section
namespace Go.Proofs.Ytaoffejflichjaa.P
open Go.RowKit Go.Proofs.YtaoffejflichjaaW.PrintWords Go.Proofs.YtaoffejflichjaaW.PrintLast Go.Proofs.YtaoffejflichjaaW.PrintMore
set_option linter.unusedVariables false
set_option linter.unusedSimpArgs false
theorem szMemA (m : List (List Int)) (hm : Fit m) (a : Int) (h0 : 0 ≤ a) (h1 : a ≤ 1048576) : ∃ r, Ev (fun k => laws_szMemory.f k m a) r ∧ (¬ r < 0 → Small m ∧ r ≤ 1048576) := by
  have hmax := hm.1
  by_cases hb : a < (m.length : Int)
  · refine ⟨-1, ⟨0, fun k _ => ?_⟩, fun h => absurd (by omega) h⟩
    dsimp only
    unfold laws_szMemory.f laws_szByteSS.f
    rw [wrap_in (x := a - (m.length : Int)) (by omega) (by omega), if_pos (by omega)]
    rfl
  · obtain ⟨r, ⟨K, hK⟩, hs⟩ := szSS_l0 m hm m.length 0 (a - (m.length : Int)) (by omega) (by omega) (by omega)
    refine ⟨if r < 0 then -1 else r, ⟨K, fun k hk => ?_⟩, fun h => ?_⟩
    · dsimp only
      unfold laws_szMemory.f laws_szByteSS.f
      have h2 := hK k hk
      simp only [Int.ofNat_zero, Int.natCast_zero] at h2
      rw [wrap_in (x := a - (m.length : Int)) (by omega) (by omega), if_neg (show ¬ (a - (m.length : Int) < 0) by omega), h2]
      simp only [Option.bind_some]
      by_cases hr : r < 0
      · rw [if_pos hr, if_pos hr]
      · rw [if_neg hr, if_neg hr]
    · by_cases hr : r < 0
      · rw [if_pos hr] at h; exact absurd (by omega) h
      · rw [if_neg hr] at h ⊢
        obtain ⟨h2, h3⟩ := hs (by omega)
        exact ⟨⟨by omega, fun a ha => h3 a (by simpa using ha)⟩, by omega⟩
theorem changedO_eq {m s : List (List Int)} {x : S33} (hm : ∀ r ∈ m, ∀ y ∈ r, 0 ≤ y ∧ y < 256) (hs : ∀ r ∈ s, ∀ y ∈ r, 0 ≤ y ∧ y < 256) (hok : memOk m = true) (hw : winOn m x.f0 x.f1 x.f2 x.f3 = true) (i : Nat) (hi : i < s.length) :
    changedO m s (i : Int) x = some (decide (x.f2 > 0 ∧ seen m x.f0 x.f1 x.f2 ≠ rd_L1 s (i : Int))) := by
  unfold changedO
  by_cases h : x.f2 > 0
  · rw [if_pos h, seen_eq hok hw, Option.bind_some]
    unfold bytes_Equal.f
    rw [Option.bind_some, Lib.strOfNums_toList, Lib.strOfNums_toList]
    have hrow : ∀ y ∈ rd_L1 s (i : Int), 0 ≤ y ∧ y < 256 := hs _ (getD_mem s [] i hi)
    have hb := bytes_inj _ _ (seen_u8 hm x.f0 x.f1 x.f2) hrow
    by_cases he : seen m x.f0 x.f1 x.f2 = rd_L1 s (i : Int)
    · rw [he]; simp
    · have : ¬ (Lib.bytesOf (seen m x.f0 x.f1 x.f2) = Lib.bytesOf (rd_L1 s (i : Int))) := fun q => he (hb.mp q)
      simp [h, he, this]
  · rw [if_neg h]; simp [h]
theorem chP_eq {m s : List (List Int)} {x : S33} (hm : ∀ r ∈ m, ∀ y ∈ r, 0 ≤ y ∧ y < 256) (hs : ∀ r ∈ s, ∀ y ∈ r, 0 ≤ y ∧ y < 256) (hok : memOk m = true) (hw : winOn m x.f0 x.f1 x.f2 x.f3 = true) (i : Nat) (hi : i < s.length) :
    chP m s (i : Int) x = decide (x.f2 > 0 ∧ seen m x.f0 x.f1 x.f2 ≠ rd_L1 s (i : Int)) := by
  unfold chP
  rw [changedO_eq hm hs hok hw i hi]; rfl
theorem since_l0 (m s : List (List Int)) (l : List S33) (hm : ∀ r ∈ m, ∀ y ∈ r, 0 ≤ y ∧ y < 256) (hs : ∀ r ∈ s, ∀ y ∈ r, 0 ≤ y ∧ y < 256) (hok : memOk m = true) (hsk : memOk s = true) (hon : ∀ x ∈ l, winOn m x.f0 x.f1 x.f2 x.f3 = true) (hlen : l.length ≤ 12) (hsl : s.length = l.length) (d : Nat) : ∀ (i : Nat) (acc : List Int), i + d = l.length → acc.length ≤ i →
    Ev (fun k => spec_ChangedSince.l0 k l acc (i : Int) m s) (if (List.range' i d).all (lenAt l s) = true then (acc ++ numsF (chP m s) (l.drop i) i, true) else ([], false)) := by
  induction d with
  | zero =>
    intro i acc hi ha
    refine Ev.end_ (fun k => ?_)
    rw [spec_ChangedSince.l0, if_neg (by omega), List.drop_eq_nil_of_le (by omega)]
    simp [numsF]
  | succ d ih =>
    intro i acc hi ha
    have hlt : i < l.length := by omega
    have hwi := hon _ (List.getElem_mem hlt)
    have hrl : (rd_L1 s (i : Int)).length ≤ 64 := (memOk_each hsk _ (getD_mem s [] i (by omega))).2
    rw [List.range'_succ, List.all_cons]
    cases hl : lenAt l s i with
    | false =>
      refine Ev.end_ (fun k => ?_)
      rw [spec_ChangedSince.l0, if_pos (by omega), if_pos (by omega), if_pos (by omega), most_eq, Option.bind_some]
      have h1 : ¬ ((rd_L1 s (i : Int)).length : Int) = mx (rd_T33 l (i : Int)).f2 1 := by
        unfold lenAt at hl
        have := of_decide_eq_false hl
        unfold mx at this ⊢
        split at this <;> split <;> omega
      rw [if_neg h1]
      simp
    | true =>
      rw [Bool.true_and]
      have h1 : ((rd_L1 s (i : Int)).length : Int) = mx (rd_T33 l (i : Int)).f2 1 := by
        unfold lenAt at hl
        have := of_decide_eq_true hl
        unfold mx at this ⊢
        split at this <;> split <;> omega
      rw [numsF_drop _ l i hlt, rdB hlt, chP_eq hm hs hok hwi i (by omega)]
      by_cases h2 : l[i].f2 > 0
      · obtain ⟨K1, e1⟩ := l2Bytes_ev hok hwi
        have hsl1 := seen_len hok hwi
        have hb := win_sm hok hwi
        obtain ⟨K2, e2⟩ := l2Order_l0 (seen m l[i].f0 l[i].f1 l[i].f2) (rd_L1 s (i : Int)) (by omega) (by omega) (seen m l[i].f0 l[i].f1 l[i].f2).length 0 (by omega) (by omega)
        simp only [List.drop_zero] at e2
        by_cases h3 : seen m l[i].f0 l[i].f1 l[i].f2 = rd_L1 s (i : Int)
        · obtain ⟨K, hK⟩ := ih (i + 1) acc (by omega) (by omega)
          refine ⟨K1 + K2 + K + 1, fun k hk => ?_⟩
          obtain ⟨k, rfl⟩ : ∃ j, k = j + 1 := ⟨k - 1, by omega⟩
          have e1 := e1 k (by omega)
          have e2 := e2 k (by omega)
          have e3 := hK k (by omega)
          dsimp only at e1 e2 e3 ⊢
          have e2' : spec_l2Order.f k (seen m l[i].f0 l[i].f1 l[i].f2) (rd_L1 s (i : Int)) = some 0 := by rw [← (cmpI_zero _ _).mpr h3]; exact e2
          rw [rdB hlt] at h1
          rw [spec_ChangedSince.l0, if_pos (by omega), if_pos (by omega), if_pos (by omega), rdB hlt, most_eq, Option.bind_some, if_pos h1, if_pos h2, e1, Option.bind_some, e2', Option.bind_some, if_pos rfl, wrap_succ i (by omega), e3]
          simp [h3]
        · obtain ⟨K, hK⟩ := ih (i + 1) (acc ++ [(i : Int)]) (by omega) (by simp; omega)
          refine ⟨K1 + K2 + K + 1, fun k hk => ?_⟩
          obtain ⟨k, rfl⟩ : ∃ j, k = j + 1 := ⟨k - 1, by omega⟩
          have e1 := e1 k (by omega)
          have e2 := e2 k (by omega)
          have e3 := hK k (by omega)
          dsimp only at e1 e2 e3 ⊢
          have e2' : spec_l2Order.f k (seen m l[i].f0 l[i].f1 l[i].f2) (rd_L1 s (i : Int)) = some (cmpI (seen m l[i].f0 l[i].f1 l[i].f2) (rd_L1 s (i : Int))) := e2
          rw [rdB hlt] at h1
          rw [spec_ChangedSince.l0, if_pos (by omega), if_pos (by omega), if_pos (by omega), rdB hlt, most_eq, Option.bind_some, if_pos h1, if_pos h2, e1, Option.bind_some, e2', Option.bind_some, if_neg (fun q => h3 ((cmpI_zero _ _).mp q)), if_pos (by omega), wrap_succ i (by omega), e3]
          simp [h3, h2]
      · obtain ⟨K, hK⟩ := ih (i + 1) acc (by omega) (by omega)
        refine ⟨K + 1, fun k hk => ?_⟩
        obtain ⟨k, rfl⟩ : ∃ j, k = j + 1 := ⟨k - 1, by omega⟩
        have e3 := hK k (by omega)
        dsimp only at e3 ⊢
        rw [rdB hlt] at h1
        rw [spec_ChangedSince.l0, if_pos (by omega), if_pos (by omega), if_pos (by omega), rdB hlt, most_eq, Option.bind_some, if_pos h1, if_neg h2, wrap_succ i (by omega), e3]
        simp [h2]
def sinceR (m : List (List Int)) (l : List S33) (s : List (List Int)) : List Int × Bool :=
  if watched m l = true then (if memOk s = true then (if s.length = l.length then (if lensOk l s l.length = true then (numsF (chP m s) l 0, true) else ([], false)) else ([], false)) else ([], false)) else ([], false)
theorem since_spec (m s : List (List Int)) (l : List S33) (hm : Fit m) (hs : Fit s) (hmu : ∀ r ∈ m, ∀ y ∈ r, 0 ≤ y ∧ y < 256) (hsu : ∀ r ∈ s, ∀ y ∈ r, 0 ≤ y ∧ y < 256) (hw : ∀ x ∈ l, wf4 x) (hlen : l.length ≤ 1048576) : Ev (fun k => spec_ChangedSince.f k m l s) (sinceR m l s) := by
  obtain ⟨K, hK⟩ := l3Watched_ev m hm l hw hlen
  obtain ⟨K2, hK2⟩ := l2Mem s hs.1
  unfold sinceR
  cases h1 : watched m l with
  | false =>
    refine ⟨K + 1, fun k hk => ?_⟩
    obtain ⟨k, rfl⟩ : ∃ j, k = j + 1 := ⟨k - 1, by omega⟩
    have e1 := hK (k + 1) (by omega)
    dsimp only at e1 ⊢
    rw [spec_ChangedSince.f, e1, h1]; simp [spec_ChangedSince.j0]
  | true =>
    cases h2 : memOk s with
    | false =>
      refine ⟨K + K2 + 1, fun k hk => ?_⟩
      obtain ⟨k, rfl⟩ : ∃ j, k = j + 1 := ⟨k - 1, by omega⟩
      have e1 := hK (k + 1) (by omega)
      have e2 := hK2 (k + 1) (by omega)
      dsimp only at e1 e2 ⊢
      rw [spec_ChangedSince.f, e1, h1, e2, h2]; simp [spec_ChangedSince.j0]
    | true =>
      by_cases h3 : s.length = l.length
      · obtain ⟨hok, hon, h12⟩ := onAll_each h1
        obtain ⟨K3, hK3⟩ := since_l0 m s l hmu hsu hok h2 hon h12 h3 l.length 0 [] (by omega) (by simp)
        refine ⟨K + K2 + K3 + 1, fun k hk => ?_⟩
        obtain ⟨k, rfl⟩ : ∃ j, k = j + 1 := ⟨k - 1, by omega⟩
        have e1 := hK (k + 1) (by omega)
        have e2 := hK2 (k + 1) (by omega)
        have e3 := hK3 k (by omega)
        dsimp only at e1 e2 e3 ⊢
        have c1 : ((s.length : Int) != (l.length : Int)) = false := by rw [h3]; exact bne_self_eq_false _
        rw [spec_ChangedSince.f, e1, h1, e2, h2, Option.bind_some, Option.bind_some, if_pos rfl, Option.bind_some, if_pos rfl, spec_ChangedSince.j0, c1, if_neg (by decide), if_pos rfl, if_pos rfl, if_pos h3]
        simp only [List.nil_append, List.drop_zero, Int.ofNat_zero, Int.natCast_zero, ← List.range_eq_range'] at e3
        exact e3
      · refine ⟨K + K2 + 1, fun k hk => ?_⟩
        obtain ⟨k, rfl⟩ : ∃ j, k = j + 1 := ⟨k - 1, by omega⟩
        have e1 := hK (k + 1) (by omega)
        have e2 := hK2 (k + 1) (by omega)
        dsimp only at e1 e2 ⊢
        have c1 : ((s.length : Int) != (l.length : Int)) = true := by simpa using (by omega : ¬ (s.length : Int) = (l.length : Int))
        rw [spec_ChangedSince.f, e1, h1, e2, h2, Option.bind_some, Option.bind_some, if_pos rfl, Option.bind_some, if_pos rfl, spec_ChangedSince.j0, c1, if_pos rfl, if_pos rfl, if_pos rfl, if_neg h3]
theorem since_impl (m s : List (List Int)) (l : List S33) (hm : Fit m) (hs : Fit s) (hmu : ∀ r ∈ m, ∀ y ∈ r, 0 ≤ y ∧ y < 256) (hsu : ∀ r ∈ s, ∀ y ∈ r, 0 ≤ y ∧ y < 256) : Ev (fun k => impl_ChangedSince.f k m l s) (sinceR m l s) := by
  obtain ⟨K, hK⟩ := areWatched_ev m hm l
  obtain ⟨K2, hK2⟩ := isMem s hs.1
  refine ⟨K + K2, fun k hk => ?_⟩
  have e1 := hK k (by omega)
  have e2 := hK2 k (by omega)
  dsimp only at e1 e2 ⊢
  unfold sinceR
  rw [impl_ChangedSince.f, e1, Option.bind_some]
  cases h1 : watched m l with
  | false => rfl
  | true =>
    rw [if_pos rfl, if_pos rfl, e2, Option.bind_some]
    cases h2 : memOk s with
    | false => rfl
    | true =>
      rw [if_pos rfl, if_pos rfl]
      by_cases h3 : s.length = l.length
      · obtain ⟨hok, hon, h12⟩ := onAll_each h1
        have hsome : chSome m s l = true := by
          unfold chSome
          rw [List.all_eq_true]
          intro i hi
          have hi := List.mem_range.mp hi
          rw [rdB hi, changedO_eq hmu hsu hok (hon _ (List.getElem_mem hi)) i (by omega)]; rfl
        rw [if_pos h3, if_pos h3, if_pos (by omega), if_pos hsome]
      · rw [if_neg h3, if_neg h3]
theorem sinceR_len (m s : List (List Int)) (l : List S33) (hlen : l.length ≤ 1048576) : (sinceR m l s).1.length ≤ 1048576 := by
  have := numsF_len (chP m s) l 0
  unfold sinceR
  repeat' split
  all_goals first | (simp; done) | (dsimp only; omega)
theorem FnExactChangedSince_ok : FnExactChangedSinceTrue := by
  intro A0 c0 m A1 c1 l A2 c2 s w hr hc hr1 hc1 hr2 hc2 hm hl hs
  have hfit : Fit m := ⟨hm.1, fun a ha => (hm.2 a ha).1⟩
  have hfs : Fit s := ⟨hs.1, fun a ha => (hs.2 a ha).1⟩
  have hmu : ∀ r ∈ m, ∀ y ∈ r, 0 ≤ y ∧ y < 256 := fun r hr' y hy' => wfu8 ((hm.2 r hr').2 y hy')
  have hsu : ∀ r ∈ s, ∀ y ∈ r, 0 ≤ y ∧ y < 256 := fun r hr' y hy' => wfu8 ((hs.2 r hr').2 y hy')
  have hw : ∀ x ∈ l.map cvW, wf4 x := fun x hx => by
    obtain ⟨y, hy, rfl⟩ := List.mem_map.mp hx
    exact wf64 (hl.2 y hy).2.1
  obtain ⟨r, ⟨K0, h0⟩, hz⟩ := szMem m hfit
  dsimp only at h0
  by_cases hr0 : r < 0
  · exact laws_FnExactChangedSince.exit1 K0 A0 c0 m A1 c1 l A2 c2 s r w hr hc hr1 hc1 hr2 hc2 (h0 K0 (Nat.le_refl _)) hr0
  · obtain ⟨hsm, hr1'⟩ := hz hr0
    obtain ⟨r2, hq, hz2⟩ := szWins l r hl.1 hr0 hr1'
    by_cases hr2n : r2 < 0
    · exact laws_FnExactChangedSince.exit2 K0 A0 c0 m A1 c1 l A2 c2 s r r2 w hr hc hr1 hc1 hr2 hc2 (h0 K0 (Nat.le_refl _)) hq hr0 hr2n
    · obtain ⟨hlen, hr2'⟩ := hz2 hr2n
      obtain ⟨r3, ⟨K3a, h3⟩, hz3⟩ := szMemA s hfs r2 (by omega) hr2'
      dsimp only at h3
      by_cases hr3 : r3 < 0
      · exact laws_FnExactChangedSince.exit3 (K0 + K3a) A0 c0 m A1 c1 l A2 c2 s r r2 r3 w hr hc hr1 hc1 hr2 hc2 (h0 _ (by omega)) hq (h3 _ (by omega)) hr0 hr2n hr3
      · obtain ⟨hss, _⟩ := hz3 hr3
        have hlen' : (l.map cvW).length ≤ 1048576 := by rw [List.length_map]; exact hlen
        obtain ⟨K1, e1⟩ := toMem m hsm
        obtain ⟨K1s, e1s⟩ := toMem s hss
        obtain ⟨K2, e2⟩ := eqMem m hfit
        obtain ⟨K2s, e2s⟩ := eqMem s hfs
        obtain ⟨K3, e3⟩ := toWins l hlen
        obtain ⟨K4, e4⟩ := eqWins (l.map cvW) (by omega)
        obtain ⟨K5, e5⟩ := since_spec m s (l.map cvW) hfit hfs hmu hsu hw hlen'
        obtain ⟨K6, e6⟩ := since_impl m s (l.map cvW) hfit hfs hmu hsu
        have hg : (sinceR m (l.map cvW) s).1.length ≤ 1048576 := sinceR_len m s (l.map cvW) hlen'
        obtain ⟨⟨g, ok⟩, hgo⟩ : ∃ x, x = sinceR m (l.map cvW) s := ⟨_, rfl⟩
        rw [← hgo] at e5 e6 hg
        dsimp only at hg
        obtain ⟨K7, e7⟩ := eqInts g (by omega)
        obtain ⟨K8, e8⟩ := markMem m 1 hsm (by omega) (by omega)
        have ht := total_small hsm
        have ht2 := total_small hss
        obtain ⟨y, K9, e9⟩ := markWins (l.map cvW) (1 + total m) hlen' (by omega) (by omega)
        obtain ⟨K12, e12⟩ := markMem s (1 + total m + 4 * (l.map cvW).length) hss (by omega) (by omega)
        obtain ⟨K10, e10⟩ := markInts g 1 (by omega) (by omega) (by omega)
        obtain ⟨K11, e11⟩ := heldInts 1 g.length (by omega) (by omega) (by omega)
        obtain ⟨K, hK⟩ : ∃ K, K = K0 + K1 + K2 + K3 + K4 + K5 + K6 + K7 + K8 + K9 + K10 + K11 + K12 + K3a + K1s + K2s := ⟨_, rfl⟩
        exact laws_FnExactChangedSince.walk K A0 c0 m A1 c1 l A2 c2 s r r2 r3 m (l.map cvW) s g ok g _ _ _ _ _ _ _ _ w hr hc hr1 hc1 hr2 hc2 (h0 K (by omega)) hq (h3 K (by omega)) (e1 K (by omega)) (e3 K (by omega)) (e1s K (by omega)) (e5 K (by omega)) (e6 K (by omega)) (e7 K (by omega)) (e2 K (by omega)) (e4 K (by omega)) (e2s K (by omega)) (e8 K (by omega)) (e9 K (by omega)) (e12 K (by omega)) (e10 K (by omega)) (e11 K (by omega)) hr0 hr2n hr3 (by omega) (by omega) (by omega) (by omega)
end Go.Proofs.Ytaoffejflichjaa.P
end
section
namespace Go.Proofs.Ytaoffejflichjaa.fnExactChangedSince
open Go.ChangeShapes Go.WideShapes Go.ChangeAt Go.RowKit Go.Proofs.Ytaoffejflichjaa.P Go.Proofs.YtaoffejflichjaaW.PrintWords Go.Proofs.YtaoffejflichjaaW.PrintLast Go.Proofs.YtaoffejflichjaaW.PrintMore
open Go.ChangeMaps (open_string shut_string)
set_option linter.unusedVariables false
set_option linter.unusedSimpArgs false
theorem own : ownKnob Try.prog.godebug = none := by kernel_rfl
theorem laidOut : laidOutB Try.prog = true := by kernel_rfl
set_option maxRecDepth 100000 in
theorem lifted (os : Os) (started : os.Started) (H : Type) (enc : TypeId × Value → H) :
    ReturnsInHanded {} Try.checked os 9 .any (Rows.fnExactChangedSinceSpec.pre6 enc Try.prog Try.f9 Rows.fnExactChangedSinceRow.domain false) (Rows.fnExactChangedSinceSpec.post enc Try.prog Try.f9 false true false false) := by
  refine returnsInHanded_of_change_sized (C := Try.checked) own started (by kernel_rfl) Try.func9
    (ChangeSpec.witness6 (enc := enc) (C := Try.checked) false ⟨#[], #[.agg #[.slice none 0 0], .slice none 0 0, .agg #[.slice none 0 0]], []⟩ 8 (by kernel_rfl) (by kernel_rfl) (by kernel_rfl) (by kernel_rfl)) ?_
  intro W base args ds gs before hval0 hW hcnd hsz0 _
  have hval : ∀ (j : Nat) t v, Try.f9.params[j]? = some t → args[j]? = some v → Value.okWide Try.prog W .any base t v := hval0
  have hW' := hW
  obtain ⟨p, q, hA0, hV, rfl, hfz, hnd⟩ := hW
  have hA : DataW.TrodAll enc Try.prog W 0 (fun _ => true) true Try.f9.params.toList args.toList ds p := hA0
  rw [Try.params9] at hA hval
  obtain ⟨v0, vs0, d0, ds0, p0, q0, hargs, rfl, rfl, h0, r0⟩ := trodAll_cons hA
  obtain ⟨v1, vs1, d1, ds1, p1, q1, rfl, rfl, rfl, h1, r1⟩ := trodAll_cons r0
  obtain ⟨v2, vs2, d2, ds2, p2, q2, rfl, rfl, rfl, h2, r2⟩ := trodAll_cons r1
  obtain ⟨rfl, rfl, rfl⟩ := trodAll_nil r2
  obtain rfl : args = #[v0, v1, v2] := by cases args; simp_all
  obtain ⟨rfl, rfl⟩ := trodVars_none hV
  have k0_ := h0
  have lt0 : ∀ x ∈ p0, x.block < W.heap.size := by obtain ⟨m, hm⟩ := k0_; exact DataW.trod_lt m _ _ _ hm
  obtain ⟨v0_0, y0_0, nn0, rfl, h0_0⟩ := byval1 Try.underlying24 (by kernel_rfl) (by kernel_rfl) (hval 0 24 v0 rfl rfl) h0
  obtain ⟨l0_0, hk0_0, w0_0⟩ := opn_slice (d := (Kd.slice 5 (Kd.int .u8))) (Q := (fun l => l.length ≤ 9223372036854775807 ∧ ∀ x ∈ l, (fun x => (Lit.int .u8 x).wf = true) x)) Try.underlying22 (by kernel_rfl) (fun _ _ _ h => opn_slice (d := (Kd.int .u8)) (Q := (fun x => (Lit.int .u8 x).wf = true)) Try.underlying28 (by kernel_rfl) (fun _ _ _ h => opn_int Try.underlying5 h) h) h0_0
  obtain ⟨A0_0, c0_0, e0_0, hc0_0, hr0_0⟩ := hk0_0
  simp only [List.cons.injEq, and_true] at e0_0
  subst e0_0
  have k1_ := h1
  have lt1 : ∀ x ∈ p1, x.block < W.heap.size := by obtain ⟨m, hm⟩ := k1_; exact DataW.trod_lt m _ _ _ hm
  obtain ⟨nn1, h1_0⟩ := h1
  obtain ⟨A_, n_, c_, rfl⟩ := okWide_slice Try.underlying40 (hval 1 40 v1 rfl rfl)
  obtain ⟨l1, hk1, w1⟩ := opn_slice (d := k26) (Q := (fun x => (fun x => (Lit.int .i64 x).wf = true) x.f0 ∧ (fun x => (Lit.int .i64 x).wf = true) x.f1 ∧ (fun x => (Lit.int .i64 x).wf = true) x.f2 ∧ (fun x => (Lit.int .i64 x).wf = true) x.f3)) Try.underlying40 (by kernel_rfl) (fun _ _ _ h => opn_S26 h) h1_0
  obtain ⟨A1, c1, e1, hc1, hr1⟩ := hk1
  simp only [Value.cells, List.cons.injEq, and_true, Array.toList] at e1
  simp only [Value.slice.injEq] at e1
  obtain ⟨rfl, rfl, rfl⟩ := e1
  have k2_ := h2
  have lt2 : ∀ x ∈ p2, x.block < W.heap.size := by obtain ⟨m, hm⟩ := k2_; exact DataW.trod_lt m _ _ _ hm
  obtain ⟨v2_0, y2_0, nn2, rfl, h2_0⟩ := byval1 Try.underlying24 (by kernel_rfl) (by kernel_rfl) (hval 2 24 v2 rfl rfl) h2
  obtain ⟨l2_0, hk2_0, w2_0⟩ := opn_slice (d := (Kd.slice 5 (Kd.int .u8))) (Q := (fun l => l.length ≤ 9223372036854775807 ∧ ∀ x ∈ l, (fun x => (Lit.int .u8 x).wf = true) x)) Try.underlying22 (by kernel_rfl) (fun _ _ _ h => opn_slice (d := (Kd.int .u8)) (Q := (fun x => (Lit.int .u8 x).wf = true)) Try.underlying28 (by kernel_rfl) (fun _ _ _ h => opn_int Try.underlying5 h) h) h2_0
  obtain ⟨A2_0, c2_0, e2_0, hc2_0, hr2_0⟩ := hk2_0
  simp only [List.cons.injEq, and_true] at e2_0
  subst e2_0
  clear hA0 hval0 hsz0
  refine (FnExactChangedSince_ok _ _ l0_0 _ _ l1 _ _ l2_0 W hr0_0 hc0_0 hr1 hc1 hr2_0 hc2_0 w0_0 w1 w2_0).mono fun e W' ⟨he, bel0⟩ => ?_
  have bel : Below W.heap.size W W' := by first | exact bel0 | exact bel0.below
  subst he
  exact ⟨_, rfl, _, _, _, [], _, [], hW', trodAll_mk1 (shut_bool Try.underlying4 _), (trodAll_cons_mk (Below.trod laidOut (by kernel_rfl) (of_decide_eq_true (by kernel_rfl)) k0_ bel lt0) (trodAll_cons_mk (Below.trod laidOut (by kernel_rfl) (of_decide_eq_true (by kernel_rfl)) k1_ bel lt1) (trodAll_cons_mk (Below.trod laidOut (by kernel_rfl) (of_decide_eq_true (by kernel_rfl)) k2_ bel lt2) trodAll_mk0))), rfl, bel.frame _, fun h => by cases h⟩
theorem over : Rows.fnExactChangedSinceRow.holds Try.pinned (OpenSpec.ofChange Rows.fnExactChangedSinceSpec) :=
  OpenClaim.holds_of_wide 9 Try.f9 rfl rfl rfl rfl rfl rfl rfl ⟨rfl, rfl, rfl, rfl, rfl⟩ rfl rfl rfl rfl rfl (by kernel_rfl) Try.func9 (by kernel_rfl)
    (of_decide_eq_true (by kernel_rfl)) (by unfold Func.isWrapper; first | (rw [if_pos (by decide +kernel)]; kernel_rfl) | (rw [if_neg (by decide +kernel)]; exact ⟨rfl, rfl⟩))
    (fun os started H enc _ => lifted os started H enc)
theorem proved : Rows.FnExactChangedSinceSaid := over
#print axioms proved
end Go.Proofs.Ytaoffejflichjaa.fnExactChangedSince
namespace Go.Proofs.Ytaoffejflichjaa
theorem fnExactChangedSince_holds : Rows.FnExactChangedSinceSaid := fnExactChangedSince.proved
end Go.Proofs.Ytaoffejflichjaa
end
