/- The texts YthnchjgffocigaaDoorShelfA, YthnchjgffocigaaDoorDoorF, YthnchjgffocigaaDoorWrap, YthnchjgffocigaaDoorStr, YthnchjgffocigaaDoorPx37, YthnchjgffocigaaDoorPx38, YthnchjgffocigaaDoorWalkFnSlices, YthnchjgffocigaaDoorStFnSlices, YthnchjgffocigaaDoorTexts, YthnchjgffocigaaDoorNumP, YthnchjgffocigaaDoorWinT, YthnchjgffocigaaDoorPureFnSlices, YthnchjgffocigaaDoorRowFnSlices, without what the row does not need: words for rows in memory, contracts of functions, plain lemmas, the row. -/
import Derived.Test.YthnchjgffocigaaDoorZSlices5
import Derived.Shelf.Strings.Builder1
import Derived.Shelf.Strings.Builder2
import Derived.Shelf.Strings.OnBuilder
import Derived.Shelf.Small.Bits
import Derived.Shelf.Small.Wraps
import Derived.Shelf.Strconv.Itoa0
import Derived.Shelf.Strconv.Itoa1
import Derived.Shelf.LaysM
import Derived.Shelf.Strconv.Itoa2
import Derived.Shelf.Strconv.Itoa3
import Derived.Shelf.Sort.Plain
import Derived.Ground.Names2Prog
import Derived.Shelf.Slices.SearchI
import Derived.Shelf.Slices.In.SortNone
import Derived.Test.YthnchjgffocigaaDoorProg
import Derived.Lib.SmallJoins
import Derived.Test.YthnchjgffocigaaDoorRows
import Derived.ProofKit
import Derived.LaidMore
import Derived.LaidLaws
import Derived.Stop.LaidErr
import Derived.Shelf.Vars
import Derived.SizedLaws
import Derived.MakeChecks
import Derived.StillTailTactics
import Derived.Shelf.Abstract
import Derived.Test.YthnchjgffocigaaDoorTie
import Derived.Test.YthnchjgffocigaaDoorCards
import Derived.SevenTiedAt
import Derived.WalkKit
import Derived.OpenShut
import Derived.ShutString
import Derived.ChangeOld
import Derived.Below
section
namespace Go.Proofs
open Go.Shelf
def Tryd.lays156_ren : Go.Shelf.Ren := ⟨fun | 156 => 104 | 165 => 131 | 166 => 132 | 169 => 133 | 240 => 151 | 241 => 152 | 276 => 162 | 277 => 163 | n => n, fun | 31 => 128 | 9 => 9 | 3 => 3 | 4 => 4 | 0 => 0 | 20 => 20 | 72 => 151 | 76 => 155 | 70 => 149 | 37 => 22 | 75 => 154 | 127 => 172 | 164 => 185 | 5 => 5 | 80 => 157 | n => n, fun | n => n⟩
theorem Tryd.lays156 : Go.Proofs.Lays.n156 Tryd.prog Tryd.lays156_ren := {
  mixed := by kernel_rfl
  f156 := Tryd.func104.trans (congrArg some (by kernel_rfl))
  f165 := Tryd.func131.trans (congrArg some (by kernel_rfl))
  f166 := Tryd.func132.trans (congrArg some (by kernel_rfl))
  f169 := Tryd.func133.trans (congrArg some (by kernel_rfl))
  f240 := Tryd.func151.trans (congrArg some (by kernel_rfl))
  f241 := Tryd.func152.trans (congrArg some (by kernel_rfl))
  f276 := Tryd.func162.trans (congrArg some (by kernel_rfl))
  f277 := Tryd.func163.trans (congrArg some (by kernel_rfl))
  t0 := Tryd.underlying0
  a0 := Tryd.isAgg0
  z0 := Tryd.sizeOf0
  v0 := Tryd.zeroValue0
  t3 := Tryd.underlying3
  a3 := Tryd.isAgg3
  z3 := Tryd.sizeOf3
  v3 := Tryd.zeroValue3
  t4 := Tryd.underlying4
  a4 := Tryd.isAgg4
  z4 := Tryd.sizeOf4
  v4 := Tryd.zeroValue4
  t9 := Tryd.underlying9
  a9 := Tryd.isAgg9
  z9 := Tryd.sizeOf9
  v9 := Tryd.zeroValue9
  t20 := Tryd.underlying20
  a20 := Tryd.isAgg20
  z20 := Tryd.sizeOf20
  v20 := Tryd.zeroValue20
  t31 := Tryd.underlying128
  a31 := Tryd.isAgg128
  z31 := Tryd.sizeOf128
  v31 := Tryd.zeroValue128
  t37 := Tryd.underlying22
  a37 := Tryd.isAgg22
  z37 := Tryd.sizeOf22
  v37 := Tryd.zeroValue22
  t70 := Tryd.underlying149
  a70 := Tryd.isAgg149
  z70 := Tryd.sizeOf149
  v70 := Tryd.zeroValue149
  t72 := Tryd.underlying151
  a72 := Tryd.isAgg151
  z72 := Tryd.sizeOf151
  v72 := Tryd.zeroValue151
  t75 := Tryd.underlying154
  a75 := Tryd.isAgg154
  z75 := Tryd.sizeOf154
  v75 := Tryd.zeroValue154
  t76 := Tryd.underlying155
  a76 := Tryd.isAgg155
  z76 := Tryd.sizeOf155
  v76 := Tryd.zeroValue155
  t127 := Tryd.underlying172
  a127 := Tryd.isAgg172
  z127 := Tryd.sizeOf172
  v127 := Tryd.zeroValue172
  t164 := Tryd.underlying185
  a164 := Tryd.isAgg185
  z164 := Tryd.sizeOf185
  v164 := Tryd.zeroValue185 }
theorem Tryd.Builder_Extra_156 : Builder.Extra Tryd.prog Tryd.lays156_ren := {
  sizeBuilder := by kernel_rfl
  liesBuilder := by kernel_rfl
  t5 := Tryd.underlying5
  a5 := Tryd.isAgg5
  z5 := Tryd.sizeOf5
  v5 := Tryd.zeroValue5
  infoByte := by kernel_rfl
  cellsByte := by kernel_rfl
  sizeByte := by kernel_rfl
  neB5 := by decide }
open Go.RowKit in
theorem Tryd.strings_Join (bk o c : Nat) (xs : List ByteArray) (sep : ByteArray) (w : World) (hcells : ∀ (j : Nat) x, xs[j]? = some x → w.cell? ⟨bk, o + j, none⟩ = some (.string x)) (hbk : bk < w.heap.size) (hN : xs.length ≤ 140737488355328) (hcap : xs.length ≤ c) (hlen : (Lib.join (xs.map (·.data.toList)) sep.data.toList).length ≤ 140737488355328) :
    Calls Tryd.prog 104 #[.slice (some ⟨bk, o, none⟩) xs.length c, .string sep] w fun e w' => e = .returned (.string ⟨(Lib.join (xs.map (·.data.toList)) sep.data.toList).toArray⟩) ∧ Below w.heap.size w w' := Any.strings_Join Tryd.lays156 Tryd.Builder_Extra_156 bk o c xs sep w hcells hbk hN hcap hlen
def Tryd.laysM171_ren : Go.Shelf.Ren := ⟨fun | 171 => 103 | 243 => 130 | 246 => 150 | 283 => 158 | 284 => 159 | 285 => 160 | 286 => 161 | 129 => 146 | 317 => 165 | 318 => 166 | 319 => 167 | 320 => 119 | 337 => 147 | 338 => 148 | n => n, fun | 3 => 3 | 9 => 9 | 2 => 2 | 4 => 4 | 171 => 181 | 0 => 0 | 53 => 83 | 37 => 22 | 5 => 5 | 173 => 183 | 212 => 190 | 51 => 169 | 20 => 20 | 213 => 191 | 46 => 140 | 232 => 179 | 233 => 180 | n => n, fun | 17 => 2 | 18 => 0 | 19 => 1 | n => n⟩
theorem Tryd.laysM171 : Go.Proofs.LaysM.n171 Tryd.prog Tryd.laysM171_ren := {
  mixed := by kernel_rfl
  f129 := Tryd.func146.trans (congrArg some (by kernel_rfl))
  f171 := Tryd.func103.trans (congrArg some (by kernel_rfl))
  f243 := Tryd.func130.trans (congrArg some (by kernel_rfl))
  f246 := Tryd.func150.trans (congrArg some (by kernel_rfl))
  f283 := Tryd.func158.trans (congrArg some (by kernel_rfl))
  f284 := Tryd.func159.trans (congrArg some (by kernel_rfl))
  f285 := Tryd.func160.trans (congrArg some (by kernel_rfl))
  f286 := Tryd.func161.trans (congrArg some (by kernel_rfl))
  f317 := Tryd.func165.trans (congrArg some (by kernel_rfl))
  f318 := Tryd.func166.trans (congrArg some (by kernel_rfl))
  f319 := Tryd.func167.trans (congrArg some (by kernel_rfl))
  f320 := Tryd.func119.trans (congrArg some (by kernel_rfl))
  f337 := Tryd.func147.trans (congrArg some (by kernel_rfl))
  f338 := Tryd.func148.trans (congrArg some (by kernel_rfl))
  t0 := Tryd.underlying0
  a0 := Tryd.isAgg0
  z0 := Tryd.sizeOf0
  v0 := Tryd.zeroValue0
  t2 := Tryd.underlying2
  a2 := Tryd.isAgg2
  z2 := Tryd.sizeOf2
  v2 := Tryd.zeroValue2
  t3 := Tryd.underlying3
  a3 := Tryd.isAgg3
  z3 := Tryd.sizeOf3
  v3 := Tryd.zeroValue3
  t4 := Tryd.underlying4
  a4 := Tryd.isAgg4
  z4 := Tryd.sizeOf4
  v4 := Tryd.zeroValue4
  t5 := Tryd.underlying5
  a5 := Tryd.isAgg5
  z5 := Tryd.sizeOf5
  v5 := Tryd.zeroValue5
  t9 := Tryd.underlying9
  a9 := Tryd.isAgg9
  z9 := Tryd.sizeOf9
  v9 := Tryd.zeroValue9
  t20 := Tryd.underlying20
  a20 := Tryd.isAgg20
  z20 := Tryd.sizeOf20
  v20 := Tryd.zeroValue20
  t37 := Tryd.underlying22
  a37 := Tryd.isAgg22
  z37 := Tryd.sizeOf22
  v37 := Tryd.zeroValue22
  t46 := Tryd.underlying140
  a46 := Tryd.isAgg140
  z46 := Tryd.sizeOf140
  v46 := Tryd.zeroValue140
  t51 := Tryd.underlying169
  a51 := Tryd.isAgg169
  z51 := Tryd.sizeOf169
  v51 := Tryd.zeroValue169
  t53 := Tryd.underlying83
  a53 := Tryd.isAgg83
  z53 := Tryd.sizeOf83
  v53 := Tryd.zeroValue83
  t171 := Tryd.underlying181
  a171 := Tryd.isAgg181
  z171 := Tryd.sizeOf181
  v171 := Tryd.zeroValue181
  t173 := Tryd.underlying183
  a173 := Tryd.isAgg183
  z173 := Tryd.sizeOf183
  v173 := Tryd.zeroValue183
  t212 := Tryd.underlying190
  a212 := Tryd.isAgg190
  z212 := Tryd.sizeOf190
  v212 := Tryd.zeroValue190
  t213 := Tryd.underlying191
  a213 := Tryd.isAgg191
  z213 := Tryd.sizeOf191
  t232 := Tryd.underlying179
  a232 := Tryd.isAgg179
  z232 := Tryd.sizeOf179
  v232 := Tryd.zeroValue179
  t233 := Tryd.underlying180
  a233 := Tryd.isAgg180
  z233 := Tryd.sizeOf180
  v233 := Tryd.zeroValue180
  g17 := by kernel_rfl
  g18 := by kernel_rfl
  g19 := by kernel_rfl
  i0 := by kernel_rfl
  i2 := by kernel_rfl
  i3 := by kernel_rfl
  i4 := by kernel_rfl
  i5 := by kernel_rfl
  i9 := by kernel_rfl
  i20 := by kernel_rfl
  i37 := by kernel_rfl
  i46 := by kernel_rfl
  i51 := by kernel_rfl
  i53 := by kernel_rfl
  i171 := by kernel_rfl
  i173 := by kernel_rfl
  i212 := by kernel_rfl
  i232 := by kernel_rfl
  i233 := by kernel_rfl
  m17 := by kernel_rfl
  m18 := by kernel_rfl
  m19 := by kernel_rfl }
open Go.RowKit Go.Sort Go.Lib in
theorem Tryd.strconv_Itoa (n : Int) (h0 : -9223372036854775808 ≤ n) (h1 : n ≤ 9223372036854775807) (w : World) (htab : Lib.TabIs Tryd.prog w "internal/strconv.uint64pow10" .u64 Lib.pow10Tab) :
    Calls Tryd.prog 103 #[.int .i64 n] w fun e w' => e = .returned (.string ⟨(Lib.itoa n).toArray⟩) ∧ ∃ k os, w' = grow (w.drewN k) os := Any.strconv_Itoa Tryd.laysM171 n h0 h1 w htab
end Go.Proofs
end
section
namespace Go.Proofs.YthnchjgffocigaaDoor.P
open Go.RowKit Go.Proofs.YthnchjgffocigaaDoorW.PrintWords Go.Proofs.YthnchjgffocigaaDoorW.PrintLast Go.Proofs.YthnchjgffocigaaDoorW.PrintMore
set_option linter.unusedVariables false
set_option linter.unusedSimpArgs false
def TabA (w : World) : Prop := Lib.TabIs Tryd.prog w "internal/strconv.uint64pow10" .u64 Lib.pow10Tab
theorem TabA.below {w w' : World} (h : TabA w) (hb : Below w.heap.size w w') : TabA w' := Go.Joins.tab_stays (g := 2) (by kernel_rfl) h hb (Nat.le_refl _)
def TabB (w : World) : Prop := ∃ m, w.cell? ⟨3, 0, none⟩ = some (.int .i64 m)
theorem TabB.below {w w' : World} (h : TabB w) (hb : Below w.heap.size w w') : TabB w' := by
  obtain ⟨m, hm⟩ := h
  exact ⟨m, (hb.cell (World.block_lt_of_cell? _ _ hm)).trans hm⟩
def strconv_Itoa_103.f (n : Int) : Option ByteArray := if -9223372036854775808 ≤ n ∧ n ≤ 9223372036854775807 then some ⟨(Lib.itoa n).toArray⟩ else none
theorem strconv_Itoa_103.calls (n : Int) (r : ByteArray) (w : World) (h : strconv_Itoa_103.f n = some r) (HTA : Aside0 (TabA w) := by exact ⟨TabA.below HTA.out (by repeat (first | (with_reducible first | exact HB.out | apply below_alloc | apply pw_below_drewN | apply below_drew1 | refine below_set ?_ (Aside0.out (by assumption))) | exact HB.out))⟩) :
    Calls Tryd.prog 103 #[.int .i64 n] w fun e w' => e = .returned (.string r) ∧ Below w.heap.size w w' := by
  unfold strconv_Itoa_103.f at h
  by_cases h1 : -9223372036854775808 ≤ n ∧ n ≤ 9223372036854775807
  · rw [if_pos h1] at h
    obtain rfl := Option.some.inj h
    refine (Tryd.strconv_Itoa n h1.1 h1.2 w HTA.out).mono ?_
    rintro e w' ⟨rfl, k, os, rfl⟩
    exact ⟨rfl, rfl, rfl, rfl, by show w.heap.size ≤ (w.heap ++ os).size; rw [Array.size_append]; omega, fun j hj => by show (w.heap ++ os)[j]? = _; rw [Array.getElem?_append, if_pos hj]⟩
  · rw [if_neg h1] at h; cases h
end Go.Proofs.YthnchjgffocigaaDoor.P
end
section
namespace Go.Proofs.YthnchjgffocigaaDoor.P
open Go.RowKit Go.Proofs.YthnchjgffocigaaDoorW.PrintWords Go.Proofs.YthnchjgffocigaaDoorW.PrintLast Go.Proofs.YthnchjgffocigaaDoorW.PrintMore
section
variable {H : Type} {enc : TypeId × Value → H}
theorem returns_laid_shaped {a : Assume} {C : Checked} {os : Os} {f : FuncId} {fn : Func} {s : ChangeSpec} {conds : List PathCond} {apart fresh handsOn again : Bool} {X : World → Array Value → Prop}
    (hX : ∀ (w w' : World) (args : Array Value), w.heap = w'.heap → X w args → X w' args)
    (own : ownKnob C.prog.godebug = none) (started : os.Started) (noInit : C.prog.inits.idxOf? f = none) (hfn : C.prog.funcs[f]? = some fn)
    (witness : ∃ (w : World) (tape : Tape) (i : Input), w.os = os ∧ (w.forCall tape i).Shaped C.prog ∧ i.vars = [] ∧ Input.okWide C.prog (w.forCall tape i) .any w.heap.size f i ∧
      ((s.pre enc C.prog fn conds apart (w.forCall tape i).memory i.args ∧ X (w.forCall tape i).memory i.args) ∧ sizedMet enc C.prog fn (OpenSpec.ofChange s) apart (w.forCall tape i).memory i.args) ∧ a.holds C.prog (lone (Frame.enter C.prog f i.args .normal) [] (w.forCall tape i)))
    (contract : ∀ (W : World) (base : Nat) (args : Array Value) (ds gs : List (DataW H)) (before : List MemPlace),
      (∀ (j : Nat) t v, fn.params[j]? = some t → args[j]? = some v → Value.okWide C.prog W .any base t v) →
      DataW.Whole enc C.prog fn.params.toList s.vars apart W args.toList ds gs before →
      conds.all (PathCond.test C.prog ⟨fn.params.toList, ds, s.plain.varTypes C.prog, gs⟩) = true →
      (DataW.weightsEach C.prog (fn.params.toList ++ s.plain.varTypes C.prog) (ds ++ gs)).all (· ≤ reachBytes) = true → X W args → W.ShapedOpen C.prog →
      a.holds C.prog (lone (Frame.enter C.prog f args .normal) [] W) →
      Calls C.prog f args W fun e W' => ∃ v, e = .returned v ∧ s.post enc C.prog fn apart fresh handsOn again W args v W') :
    ReturnsInHanded a C os f .any (fun w args => (s.pre enc C.prog fn conds apart w args ∧ X w args) ∧ sizedMet enc C.prog fn (OpenSpec.ofChange s) apart w args) (s.post enc C.prog fn apart fresh handsOn again) := by
  refine returnsInHanded_of_calls own started noInit witness ?_
  intro w tape i _ hsh _ hok hpre hholds
  obtain ⟨_, _, _, fn', hfn', _, _, _, _, hval⟩ := hok
  have e : fn' = fn := Option.some.inj (hfn'.symm.trans hfn)
  subst e
  obtain ⟨⟨⟨ds, gs, before, hw, hc⟩, hx⟩, hz⟩ := hpre
  have hw' := DataW.Whole.of_heap (w' := w.forCall tape i) (by rfl) hw
  refine (contract (w.forCall tape i) w.heap.size i.args ds gs before hval hw' hc (hz.weights hw) (hX _ _ _ (by rfl) hx) hsh hholds).mono fun e W' ⟨v, he, hp⟩ => ?_
  subst he
  exact ChangeSpec.post_blind hp
end
theorem tabA_of {r : List (String × DataW Unit)} {W : World} (h : laidMet Tryd.prog (("internal/strconv.uint64pow10", Rows.laid_internal_strconv_uint64pow10) :: r) W) : TabA W := by
  rw [show (Rows.laid_internal_strconv_uint64pow10 : DataW Unit) = Lib.tabData .u64 Lib.pow10Tab from by kernel_rfl] at h
  exact Lib.tabIs_of_head (g := 2) (t := 190) (e := 83) (n := 20) (by kernel_rfl) (by kernel_rfl) (by kernel_rfl) (by kernel_rfl) (by kernel_rfl) (by kernel_rfl) h
end Go.Proofs.YthnchjgffocigaaDoor.P
end
section
namespace Go.Proofs.YthnchjgffocigaaDoor.P
open Go.RowKit Go.Proofs.YthnchjgffocigaaDoorW.PrintWords Go.Proofs.YthnchjgffocigaaDoorW.PrintLast Go.Proofs.YthnchjgffocigaaDoorW.PrintMore
set_option linter.unusedVariables false
set_option linter.unusedSimpArgs false
def strings_Join.f (l : List ByteArray) (sep : ByteArray) : Option ByteArray := if l.length ≤ 140737488355328 ∧ (Lib.join (l.map (·.data.toList)) sep.data.toList).length ≤ 140737488355328 then some ⟨(Lib.join (l.map (·.data.toList)) sep.data.toList).toArray⟩ else none
theorem strings_Join.calls (A0 : Option Addr) (c0 : Nat) (l0 : List ByteArray) (sep : ByteArray) (r : ByteArray) (w : World) (hr0 : Kd.C Kd.string w A0 l0.length l0) (hc0 : l0.length ≤ c0) (h : strings_Join.f l0 sep = some r) :
    Calls Tryd.prog 104 #[.slice A0 l0.length c0, .string sep] w fun e w' => e = .returned (.string r) ∧ Below w.heap.size w w' := by
  unfold strings_Join.f at h
  by_cases h1 : l0.length ≤ 140737488355328 ∧ (Lib.join (l0.map (·.data.toList)) sep.data.toList).length ≤ 140737488355328
  · rw [if_pos h1] at h
    obtain rfl := Option.some.inj h
    clear h
    by_cases hn : l0 = []
    · subst hn
      refine (Any.strings_Join_none Tryd.lays156 Tryd.Builder_Extra_156 A0 c0 sep w).mono ?_
      rintro e w' ⟨rfl, rfl⟩
      exact ⟨rfl, Below.refl _ _⟩
    · have hp : 0 < l0.length := List.length_pos_iff.mpr hn
      obtain ⟨ad, rfl, h0c⟩ := Kd.at_string hr0 0 (by omega) (by omega)
      obtain ⟨bk, o, sp⟩ := ad
      obtain rfl : sp = none := by
        cases sp with
        | none => rfl
        | some q =>
          exfalso
          have h0c : w.cell? ⟨bk, o, some q⟩ = some (.string (rdOf ByteArray.empty l0 0)) := h0c
          unfold World.cell? at h0c
          split at h0c
          · simp at h0c
          · cases h0c
      have hcells : ∀ (j : Nat) x, l0[j]? = some x → w.cell? ⟨bk, o + j, none⟩ = some (.string x) := by
        intro j x hx
        obtain ⟨hj, hx'⟩ := List.getElem?_eq_some_iff.mp hx
        obtain ⟨ad', he, hc⟩ := Kd.at_string hr0 (j : Int) (by omega) (by omega)
        cases he
        have e1 : rdOf ByteArray.empty l0 (j : Int) = x := by
          unfold rdOf
          rw [Int.toNat_natCast, List.getD_eq_getElem?_getD, hx]; rfl
        rw [e1, Int.toNat_natCast] at hc
        rw [← hc]
        unfold Addr.add
        by_cases h0 : j = 0
        · subst h0; rfl
        · rw [if_neg h0]
      have hbk : bk < w.heap.size := by
        have hc := hcells 0 l0[0] (List.getElem?_eq_getElem hp)
        rcases Nat.lt_or_ge bk w.heap.size with h | h
        · exact h
        · rw [World.cell?, show w.heap[bk]? = none from Array.getElem?_eq_none h] at hc
          cases hc
      exact (Tryd.strings_Join bk o c0 l0 sep w hcells hbk h1.1 hc0 h1.2).mono fun e w' h => h
  · rw [if_neg h1] at h; cases h
def impl_WindowText.l0 : Nat → List ByteArray → List Int → Int → Int → Option (ByteArray)
  | 0, _, _, _, _ => none
  | k + 1, x3, x15, x16, x17 => if x17 < x16 then (if 0 ≤ x17 then (if x17 < (x15.length : Int) then ((strconv_Itoa_103.f (rd x15 x17)).bind fun t1213 => (if x3.length < 8796093022208 then (impl_WindowText.l0 k (x3 ++ [t1213]) x15 x16 (wrap64 (x17 + 1))) else (none))) else (none)) else (none)) else ((strings_Join.f x3 (⟨#[58]⟩ : ByteArray)).bind fun t1217 => (some t1217))
def impl_WindowText.f (k : Nat) (a0_0 : Int) (a0_1 : Int) (a0_2 : Int) (a0_3 : Int) : Option (ByteArray) := (some (([a0_0, a0_1, a0_2, a0_3] : List Int) : List Int)).bind fun y1209 => (impl_WindowText.l0 k (([] : List ByteArray)) y1209 (y1209.length : Int) 0)
set_option maxHeartbeats 8000000 in
set_option maxRecDepth 100000 in
theorem impl_WindowText.calls (k : Nat) (a0_0 : Int) (a0_1 : Int) (a0_2 : Int) (a0_3 : Int) (r : ByteArray) (w : World) (h : impl_WindowText.f k a0_0 a0_1 a0_2 a0_3 = some r) (HTA : Aside0 (TabA w) := by exact ⟨TabA.below HTA.out (by repeat (first | (with_reducible first | apply below_alloc | apply pw_below_drewN | apply below_drew1 | refine below_set ?_ (Aside0.out (by assumption))) | exact HB.out))⟩) :
    Calls Tryd.prog 59 #[.agg #[.int .i64 a0_0, .int .i64 a0_1, .int .i64 a0_2, .int .i64 a0_3]] w fun e w' => e = .returned (.string r) ∧ Below w.heap.size w w' := by
 have hu28 := Tryd.underlying28
 have HB := Aside0.mk (Below.refl w.heap.size w)
 have H : ((some (([a0_0, a0_1, a0_2, a0_3] : List Int) : List Int)).bind fun y1209 => (impl_WindowText.l0 k (([] : List ByteArray)) y1209 (y1209.length : Int) 0)) = some r := h
 clear h
 obtain ⟨y1206, hy1206⟩ : ∃ y_ : List ByteArray, y_ = (([] : List ByteArray)) := ⟨_, rfl⟩
 replace H : ((some (([a0_0, a0_1, a0_2, a0_3] : List Int) : List Int)).bind fun y1209 => (impl_WindowText.l0 k y1206 y1209 (y1209.length : Int) 0)) = some r := by first | (rw [hy1206]; with_reducible exact H) | (have H2_ := (Option.bind_some _ _).symm.trans H; rw [hy1206]; with_reducible exact H2_) | (have H2_ := (Option.bind_some _ _).symm.trans H; with_reducible exact H2_) | with_reducible exact H | (rw [hy1206]; exact H) | exact H
 have Ny1206 := Aside0.mk hy1206
 clear hy1206
 obtain ⟨y1209, hy1209⟩ : ∃ y_ : List Int, y_ = (([a0_0, a0_1, a0_2, a0_3] : List Int)) := ⟨_, rfl⟩
 replace H : (impl_WindowText.l0 k y1206 y1209 (y1209.length : Int) 0) = some r := by first | (rw [hy1209]; with_reducible exact H) | (have H2_ := (Option.bind_some _ _).symm.trans H; rw [hy1209]; with_reducible exact H2_) | (have H2_ := (Option.bind_some _ _).symm.trans H; with_reducible exact H2_) | with_reducible exact H | (rw [hy1209]; exact H) | exact H
 have Ny1209 := Aside0.mk hy1209
 clear hy1209
 have H' := Aside0.mk H
 clear H
 go_enter Tryd.func59, Tryd.ntmps59
 go_wp2_with (first | ((with_reducible refine gate_dst (N := 1) rfl ?_); refine box_event ?hg (N := 1) ?hd (cs := #[.int .i64 a0_0, .int .i64 a0_1, .int .i64 a0_2, .int .i64 a0_3]) (t := 28) ?hr ?_; (case hd => rfl); (case hg => rfl); (case hr => first | (go_simp; done) | (go_simp; rfl)); intro gb1205 hg w2 hbox hb; have n0_ := Aside0.mk (below_step (by repeat (first | (with_reducible first | apply below_alloc | apply pw_below_drewN | apply below_drew1) | exact HB.out)) hb); have n1_ := Aside0.mk (hbox); have n2_ := Aside0.mk ((by rw [hg]; exact (below_size (by repeat (first | (with_reducible first | apply below_alloc | apply pw_below_drewN | apply below_drew1) | exact HB.out))) : w.heap.size ≤ gb1205)); have n3_ := Aside0.mk ((by rw [hg]; exact (below_size (by repeat (first | (with_reducible first | apply below_alloc | apply pw_below_drewN | apply below_drew1) | exact HB.out))) : w.heap.size ≤ gb1205)); clear HB; have HB := n0_; have BK1205 := n1_; have GW1205 := n2_; have GE1205 := n3_; clear n0_ n1_ n2_ n3_; clear hb hbox hg) | ((with_reducible refine gate_dst (N := 6) rfl ?_); refine Kd.R_lit Kd.string _ 9 ?hg (N := 6) ?hd (xs := ([] : List ByteArray)) (inner := []) (ok := fun _ => True) (okp := fun _ => True) ?hr ?hp (fun _ hk => hk) trivial (Below.refl _ _) (Nat.le_refl _) (by simp) ?_; (case hd => rfl); (case hg => rfl); (case hr => first | (go_simp; done) | (go_simp; rfl)); (case hp => exact (Reps.none _ _)); intro v1207 w3 ho4 hb hg_ hnew_; clear hg_ hnew_; (first | rw [← Ny1206.out] at ho4 | (simp only [Int.reduceToNat] at ho4; rw [← Ny1206.out] at ho4)); have n0_ := Aside0.mk (Kd.R_lower ho4 (below_size (by repeat (first | (with_reducible first | apply below_alloc | apply pw_below_drewN | apply below_drew1 | refine below_set ?_ GE1205.out) | exact HB.out)))); have n1_ := Aside0.mk (blk_below (g := gb1205) (o := .cells #[.int .i64 a0_0, .int .i64 a0_1, .int .i64 a0_2, .int .i64 a0_3] 28 (0, 0)) (by (with_reducible repeat (first | apply blk_drewN | apply blk_drew | apply blk_alloc)); exact BK1205.out) hb); have n2_ := Aside0.mk (below_step (by repeat (first | (with_reducible first | apply below_alloc | apply pw_below_drewN | apply below_drew1 | refine below_set ?_ GE1205.out) | exact HB.out)) hb); clear BK1205; clear HB; have HO1208 := n0_; have BK1205 := n1_; have HB := n2_; clear n0_ n1_ n2_; clear hb ho4; have hcz5_0 : w3.cell? ⟨gb1205, 0, none⟩ = some (.int .i64 a0_0) := (blk_cell BK1205.out 0).trans rfl; have hcz5_1 : w3.cell? ⟨gb1205, 1, none⟩ = some (.int .i64 a0_1) := (blk_cell BK1205.out 1).trans rfl; have hcz5_2 : w3.cell? ⟨gb1205, 2, none⟩ = some (.int .i64 a0_2) := (blk_cell BK1205.out 2).trans rfl; have hcz5_3 : w3.cell? ⟨gb1205, 3, none⟩ = some (.int .i64 a0_3) := (blk_cell BK1205.out 3).trans rfl; have hfz5_0 := blk_frozen BK1205.out 0; have hfz5_1 := blk_frozen BK1205.out 1; have hfz5_2 := blk_frozen BK1205.out 2; have hfz5_3 := blk_frozen BK1205.out 3) | ((with_reducible refine gate_dst (N := 15) rfl ?_); refine Kd.R_lit (Kd.int .i64) _ 3 ?hg (N := 15) ?hd (xs := ([a0_0, a0_1, a0_2, a0_3] : List Int)) (inner := [.int .i64 a0_0, .int .i64 a0_1, .int .i64 a0_2, .int .i64 a0_3]) (ok := fun _ => True) (okp := fun _ => True) ?hr ?hp (fun _ hk => hk) trivial (Below.refl _ _) (Nat.le_refl _) (by simp) ?_; (case hd => rfl); (case hg => rfl); (case hr => first | (go_simp; done) | (go_simp; rfl)); (case hp => exact (Reps.one (show Kd.M (Kd.int .i64) _ _ _ a0_0 [.int .i64 a0_0] from rfl) (Reps.one (show Kd.M (Kd.int .i64) _ _ _ a0_1 [.int .i64 a0_1] from rfl) (Reps.one (show Kd.M (Kd.int .i64) _ _ _ a0_2 [.int .i64 a0_2] from rfl) (Reps.one (show Kd.M (Kd.int .i64) _ _ _ a0_3 [.int .i64 a0_3] from rfl) (Reps.none _ _)))))); intro v1210 w6 ho7 hb hg_ hnew_; clear hg_ hnew_; (first | rw [← Ny1209.out] at ho7 | (simp only [Int.reduceToNat] at ho7; rw [← Ny1209.out] at ho7)); have n0_ := Aside0.mk (Kd.R_below (by (with_reducible repeat (first | apply Kd.R_alloc | apply Kd.R_drewN | apply Kd.R_drew)); exact HO1208.out) hb); have n1_ := Aside0.mk (Kd.R_lower ho7 (below_size (by repeat (first | (with_reducible first | apply below_alloc | apply pw_below_drewN | apply below_drew1 | refine below_set ?_ GE1205.out) | exact HB.out)))); have n2_ := Aside0.mk (blk_below (g := gb1205) (o := .cells #[.int .i64 a0_0, .int .i64 a0_1, .int .i64 a0_2, .int .i64 a0_3] 28 (0, 0)) (by (with_reducible repeat (first | apply blk_drewN | apply blk_drew | apply blk_alloc)); exact BK1205.out) hb); have n3_ := Aside0.mk (below_step (by repeat (first | (with_reducible first | apply below_alloc | apply pw_below_drewN | apply below_drew1 | refine below_set ?_ GE1205.out) | exact HB.out)) hb); clear HO1208; clear BK1205; clear HB; have HO1208 := n0_; have HO1211 := n1_; have BK1205 := n2_; have HB := n3_; clear n0_ n1_ n2_ n3_; clear hb ho7; obtain ⟨Ao8, co8, eo8⟩ := Kd.R_slice HO1211.out; subst eo8))
 go_loopg [3, 17] k (fun kq v3 v17 w' => ∃ (x3_1 : List ByteArray) (x17_1 : Int), v17 = .int .i64 x17_1 ∧ Aside0 (impl_WindowText.l0 kq x3_1 y1209 (y1209.length : Int) x17_1 = some r) ∧ Aside0 (kq ≤ k) ∧ Aside0 (Kd.R Kd.string 9 w' w.heap.size (fun _ => True) v3 x3_1) ∧ Aside0 (Kd.R (Kd.int .i64) 3 w' w.heap.size (fun _ => True) (.slice Ao8 y1209.length co8) y1209) ∧ Aside0 (w'.heap[gb1205]? = some (.cells #[.int .i64 a0_0, .int .i64 a0_1, .int .i64 a0_2, .int .i64 a0_3] 28 (0, 0))) ∧ Aside0 (Below w.heap.size w w'))
 case atStart => exact ⟨(y1206), (0), (by first | rfl | (simp; done) | (simp [*]; done)), H', ⟨Nat.le_refl _⟩, ⟨by (with_reducible repeat (first | apply Kd.R_alloc | apply Kd.R_drewN | apply Kd.R_drew)); exact HO1208.out⟩, ⟨by (with_reducible repeat (first | apply Kd.R_alloc | apply Kd.R_drewN | apply Kd.R_drew)); exact HO1211.out⟩, ⟨by (with_reducible repeat (first | apply blk_drewN | apply blk_drew | apply blk_alloc)); exact BK1205.out⟩, ⟨by repeat (first | (with_reducible first | apply below_alloc | apply pw_below_drewN | apply below_drew1 | refine below_set ?_ GE1205.out) | exact HB.out)⟩⟩
 case round =>
  clear H'
  try clear p2
  try clear c5
  try clear hcz5_0
  try clear hcz5_1
  try clear hcz5_2
  try clear hcz5_3
  try clear hfz5_0
  try clear hfz5_1
  try clear hfz5_2
  try clear hfz5_3
  obtain ⟨x3_1, x17_1, rfl, HA, HK1, HO_3, HO_15, BK1205, HB⟩ := hrel
  cases gk with
  | zero => exact absurd HA.out (by simp [impl_WindowText.l0])
  | succ k1 =>
   have H := HA.out
   clear HA
   simp only [impl_WindowText.l0] at H
   by_cases c9 : x17_1 < (y1209.length : Int)
   ·rw [if_pos c9] at H
    have c9b0 : decide (x17_1 < (y1209.length : Int)) = true := decide_eq_true c9
    clear c9
    by_cases c10 : 0 ≤ x17_1
    ·rw [if_pos c10] at H
     have c10b0 : decide (0 ≤ x17_1) = true := decide_eq_true c10
     clear c10
     by_cases c11 : x17_1 < (y1209.length : Int)
     ·rw [if_pos c11] at H
      have c11b0 : decide (x17_1 < (y1209.length : Int)) = true := decide_eq_true c11
      clear c11
      replace H := Option.bind_eq_some_iff.mp H
      obtain ⟨t1213, A120, H⟩ := H
      replace H : (if x3_1.length < 8796093022208 then (impl_WindowText.l0 k1 (x3_1 ++ [t1213]) y1209 (y1209.length : Int) (wrap64 (x17_1 + 1))) else (none)) = some r := H
      have A12 := Aside0.mk A120
      clear A120
      by_cases c13 : x3_1.length < 8796093022208
      ·rw [if_pos c13] at H
       have LMc13 := Aside0.mk c13
       clear c13
       obtain ⟨y1214, hy1214⟩ : ∃ y_ : List ByteArray, y_ = (x3_1 ++ [t1213]) := ⟨_, rfl⟩
       replace H : (impl_WindowText.l0 k1 y1214 y1209 (y1209.length : Int) (wrap64 (x17_1 + 1))) = some r := by first | (rw [hy1214]; with_reducible exact H) | (have H2_ := (Option.bind_some _ _).symm.trans H; rw [hy1214]; with_reducible exact H2_) | (have H2_ := (Option.bind_some _ _).symm.trans H; with_reducible exact H2_) | with_reducible exact H | (rw [hy1214]; exact H) | exact H
       have Ny1214 := Aside0.mk hy1214
       clear hy1214
       have H' := Aside0.mk H
       clear H
       have p1212 : 0 ≤ (x17_1 : Int) := of_decide_eq_true (by assumption)
       have q1212 : x17_1 < (y1209.length : Int) := of_decide_eq_true (by assumption)
       obtain ⟨ad1212, e1212, hx1212_0⟩ := Kd.at_int (Kd.R_reads' HO_15.out).2.2 x17_1 p1212 q1212
       cases e1212
       replace p1212 := eq_true p1212
       replace q1212 := eq_true q1212
       go_wp2_with (first | ((with_reducible refine gate_callee (f := 103) rfl ?_); refine goesL_ (some 23) rfl rfl Tryd.func103 (by kernel_rfl) rfl #[.int .i64 (rd y1209 x17_1)] rfl (by (try simp only [List.map_toArray, List.map_cons, List.map_nil]); first | done | rfl | (simp only [List.length_drop, List.length_take]; rfl)) ?_; (with_reducible refine (strconv_Itoa_103.calls (rd y1209 x17_1) t1213 _ A12.out).mono ?_); rintro e w14 ⟨rfl, hb⟩; refine ⟨_, rfl, ?_⟩; have n0_ := Aside0.mk (Kd.R_below (by (with_reducible repeat (first | apply Kd.R_alloc | apply Kd.R_drewN | apply Kd.R_drew)); exact HO_3.out) hb); have n1_ := Aside0.mk (Kd.R_below (by (with_reducible repeat (first | apply Kd.R_alloc | apply Kd.R_drewN | apply Kd.R_drew)); exact HO_15.out) hb); have n2_ := Aside0.mk (blk_below (g := gb1205) (o := .cells #[.int .i64 a0_0, .int .i64 a0_1, .int .i64 a0_2, .int .i64 a0_3] 28 (0, 0)) (by (with_reducible repeat (first | apply blk_drewN | apply blk_drew | apply blk_alloc)); exact BK1205.out) hb); have n3_ := Aside0.mk (below_step (by repeat (first | (with_reducible first | apply below_alloc | apply pw_below_drewN | apply below_drew1 | refine below_set ?_ GE1205.out) | exact HB.out)) hb); clear HO_3; clear HO_15; clear BK1205; clear HB; have HO_3 := n0_; have HO_15 := n1_; have BK1205 := n2_; have HB := n3_; clear n0_ n1_ n2_ n3_; (try clear hb); (try clear hb2); (try clear hk); (try clear hi)) | ((with_reducible refine gate_builtin (b := .append) (xs := #[.tmp 21, .tmp 24]) rfl ?_); at_builtin; refine Kd.R_append Kd.string (w0 := w) w.heap.size rfl (.tmp 21) (.tmp 24) 128 9 (.string ⟨#[]⟩) 16 rfl Tryd.underlying128 info9 rfl (by decide) (by omega) u3 x3_1 t1213 [.string t1213] (fun _ => True) (fun _ => False) rfl rfl ?aP (fun _ hk => hk.elim) ?aF ?aO ?aB ?aS ?aL ?_; (case aP => exact rfl); (case aB => exact (by repeat (first | (with_reducible first | apply below_alloc | apply pw_below_drewN | apply below_drew1 | refine below_set ?_ GE1205.out) | exact HB.out))); (case aF => exact (fun _ _ => trivial)); (case aO => exact (by (with_reducible repeat (first | apply Kd.R_alloc | apply Kd.R_drewN | apply Kd.R_drew)); exact HO_3.out)); (case aS => exact (below_size (by repeat (first | (with_reducible first | apply below_alloc | apply pw_below_drewN | apply below_drew1 | refine below_set ?_ GE1205.out) | exact HB.out)))); (case aL => have := LMc13.out; omega); intro v1215 w15 ho hb hg hat; rw [← Ny1214.out] at ho; have n0_ := Aside0.mk (Kd.R_over' (by (with_reducible repeat (first | apply Kd.R_alloc | apply Kd.R_drewN | apply Kd.R_drew)); exact HO_15.out) (Kd.R_typed (by (with_reducible repeat (first | apply Kd.R_alloc | apply Kd.R_drewN | apply Kd.R_drew)); exact HO_3.out)) (by decide) hg); have n1_ := Aside0.mk (blk_grown (g := gb1205) (o := .cells #[.int .i64 a0_0, .int .i64 a0_1, .int .i64 a0_2, .int .i64 a0_3] 28 (0, 0)) (by (with_reducible repeat (first | apply blk_drewN | apply blk_drew | apply blk_alloc)); exact BK1205.out) hg (Kd.R_ne HO_3.out BK1205.out (by decide))); have n2_ := Aside0.mk (hb); have n3_ := Aside0.mk (ho); clear HO_15; clear BK1205; clear HB; clear HO_3; have HO_15 := n0_; have BK1205 := n1_; have HB := n2_; have HO1216 := n3_; clear n0_ n1_ n2_ n3_; clear ho hb hg hat))
       go_roundg k1
       case measure => have := HK1.out; omega
       case rel => exact ⟨(y1214), (wrap64 (x17_1 + 1)), (by first | rfl | (simp; done) | (simp [*]; done)), H', ⟨by have := HK1.out; omega⟩, ⟨by (with_reducible repeat (first | apply Kd.R_alloc | apply Kd.R_drewN | apply Kd.R_drew)); exact HO1216.out⟩, ⟨by (with_reducible repeat (first | apply Kd.R_alloc | apply Kd.R_drewN | apply Kd.R_drew)); exact HO_15.out⟩, ⟨by (with_reducible repeat (first | apply blk_drewN | apply blk_drew | apply blk_alloc)); exact BK1205.out⟩, ⟨by repeat (first | (with_reducible first | apply below_alloc | apply pw_below_drewN | apply below_drew1 | refine below_set ?_ GE1205.out) | exact HB.out)⟩⟩
      ·rw [if_neg c13] at H
       exact absurd H (by simp)
     ·rw [if_neg c11] at H
      exact absurd H (by simp)
    ·rw [if_neg c10] at H
     exact absurd H (by simp)
   ·rw [if_neg c9] at H
    have c9b0 : decide (x17_1 < (y1209.length : Int)) = false := decide_eq_false c9
    clear c9
    replace H := Option.bind_eq_some_iff.mp H
    obtain ⟨t1217, A160, H⟩ := H
    replace H : (some t1217) = some r := H
    have A16 := Aside0.mk A160
    clear A160
    obtain rfl := Option.some.inj H
    obtain ⟨Ao17, co17, eo17⟩ := Kd.R_slice HO_3.out
    subst eo17
    go_wp2_with (first | ((with_reducible refine gate_callee (f := 104) rfl ?_); refine goesL_ (some 28) rfl rfl Tryd.func104 (by kernel_rfl) rfl #[.slice Ao17 x3_1.length co17, .string (⟨#[58]⟩ : ByteArray)] rfl (by (try simp only [List.map_toArray, List.map_cons, List.map_nil]); first | done | rfl | (simp only [List.length_drop, List.length_take]; rfl)) ?_; (with_reducible refine (strings_Join.calls _ _ x3_1 (⟨#[58]⟩ : ByteArray) t1217 _ ?side1 ?side2 A16.out).mono ?_); (case side1 => repeat (first | exact (Kd.R_reads' HO_3.out).2.2 | (with_reducible first | apply Kd.C_alloc | apply Kd.C_drewN | apply Kd.C_drew))); (case side2 => exact (Kd.R_reads' HO_3.out).2.1); rintro e w18 ⟨rfl, hb⟩; refine ⟨_, rfl, ?_⟩; have n0_ := Aside0.mk (Kd.R_below (by (with_reducible repeat (first | apply Kd.R_alloc | apply Kd.R_drewN | apply Kd.R_drew)); exact HO_3.out) hb); have n1_ := Aside0.mk (Kd.R_below (by (with_reducible repeat (first | apply Kd.R_alloc | apply Kd.R_drewN | apply Kd.R_drew)); exact HO_15.out) hb); have n2_ := Aside0.mk (blk_below (g := gb1205) (o := .cells #[.int .i64 a0_0, .int .i64 a0_1, .int .i64 a0_2, .int .i64 a0_3] 28 (0, 0)) (by (with_reducible repeat (first | apply blk_drewN | apply blk_drew | apply blk_alloc)); exact BK1205.out) hb); have n3_ := Aside0.mk (below_step (by repeat (first | (with_reducible first | apply below_alloc | apply pw_below_drewN | apply below_drew1 | refine below_set ?_ GE1205.out) | exact HB.out)) hb); clear HO_3; clear HO_15; clear BK1205; clear HB; have HO_3 := n0_; have HO_15 := n1_; have BK1205 := n2_; have HB := n3_; clear n0_ n1_ n2_ n3_; (try clear hb); (try clear hb2); (try clear hk); (try clear hi)))
    go_ret
    exact ⟨by first | rfl | (simp [*, errW_none, errW_some] <;> rfl), by repeat (first | (with_reducible first | apply below_alloc | apply pw_below_drewN | apply below_drew1 | refine below_set ?_ GE1205.out) | exact HB.out)⟩
def spec_l1Num.f : Nat → Int → Option (ByteArray)
  | 0, _ => none
  | k + 1, a0 => if a0 < 0 then (if a0 > (-10) then ((spec_l1Num.f k (wrap64 (-a0))).bind fun t1218 => (if 1 + t1218.size ≤ 9223372036854775807 then (some ((⟨#[45]⟩ : ByteArray) ++ t1218)) else (none))) else ((spec_l1Num.f k (wrap64 (Int.tdiv a0 10))).bind fun t1219 => ((spec_l1Num.f k (wrap64 (-(Int.tmod a0 10)))).bind fun t1220 => (if t1219.size + t1220.size ≤ 9223372036854775807 then (some (t1219 ++ t1220)) else (none))))) else (if a0 < 10 then (if 0 ≤ a0 then (if a0 ≤ (wrap64 (a0 + 1)) then (if (wrap64 (a0 + 1)) ≤ 10 then (some ((⟨#[48, 49, 50, 51, 52, 53, 54, 55, 56, 57]⟩ : ByteArray).extract (a0 : Int).toNat ((wrap64 (a0 + 1)) : Int).toNat)) else (none)) else (none)) else (none)) else ((spec_l1Num.f k (wrap64 (Int.tdiv a0 10))).bind fun t1221 => (if 0 ≤ (Int.tmod a0 10) then (if (Int.tmod a0 10) ≤ (wrap64 ((Int.tmod a0 10) + 1)) then (if (wrap64 ((Int.tmod a0 10) + 1)) ≤ 10 then (if t1221.size + ((⟨#[48, 49, 50, 51, 52, 53, 54, 55, 56, 57]⟩ : ByteArray).extract ((Int.tmod a0 10) : Int).toNat ((wrap64 ((Int.tmod a0 10) + 1)) : Int).toNat).size ≤ 9223372036854775807 then (some (t1221 ++ ((⟨#[48, 49, 50, 51, 52, 53, 54, 55, 56, 57]⟩ : ByteArray).extract ((Int.tmod a0 10) : Int).toNat ((wrap64 ((Int.tmod a0 10) + 1)) : Int).toNat))) else (none)) else (none)) else (none)) else (none))))
def spec_l1Num.T7 : Bool × List (List Nat × List Nat) := (true, [([], []), ([0], [0]), ([1], [1]), ([], []), ([3], [3]), ([], []), ([5], [5]), ([6], [6]), ([4, 7], [4, 7]), ([2, 8], [2, 8]), ([9, 2, 0, 1, 2, 3, 4, 5, 6, 7, 8, 9], [9])])
def spec_l1Num.B7 : List Nat := [0, 1, 3, 0, 8, 0, 32, 96, 248, 511, 1023]
theorem spec_l1Num.tab7 : rtab .any (opsOf Tryd.f105 7) = spec_l1Num.T7 := by kernel_rfl
theorem spec_l1Num.bits7 : waitsOk spec_l1Num.T7.2 spec_l1Num.B7 = true := by kernel_rfl
set_option maxHeartbeats 8000000 in
set_option maxRecDepth 100000 in
theorem spec_l1Num.calls (k : Nat) : ∀ (a0 : Int) (r : ByteArray) (w : World) (h : spec_l1Num.f k a0 = some r),
    Calls Tryd.prog 105 #[.int .i64 a0] w fun e w' => e = .returned (.string r) ∧ Below w.heap.size w w' := by
 induction k using Nat.strongRecOn with
 | _ k ih =>
 intro a0 r w h
 cases k with
 | zero => exact absurd h (by simp [spec_l1Num.f])
 | succ k =>
 simp only [spec_l1Num.f] at h
 have HB := Aside0.mk (Below.refl w.heap.size w)
 have H : (if a0 < 0 then (if a0 > (-10) then ((spec_l1Num.f k (wrap64 (-a0))).bind fun t1218 => (if 1 + t1218.size ≤ 9223372036854775807 then (some ((⟨#[45]⟩ : ByteArray) ++ t1218)) else (none))) else ((spec_l1Num.f k (wrap64 (Int.tdiv a0 10))).bind fun t1219 => ((spec_l1Num.f k (wrap64 (-(Int.tmod a0 10)))).bind fun t1220 => (if t1219.size + t1220.size ≤ 9223372036854775807 then (some (t1219 ++ t1220)) else (none))))) else (if a0 < 10 then (if 0 ≤ a0 then (if a0 ≤ (wrap64 (a0 + 1)) then (if (wrap64 (a0 + 1)) ≤ 10 then (some ((⟨#[48, 49, 50, 51, 52, 53, 54, 55, 56, 57]⟩ : ByteArray).extract (a0 : Int).toNat ((wrap64 (a0 + 1)) : Int).toNat)) else (none)) else (none)) else (none)) else ((spec_l1Num.f k (wrap64 (Int.tdiv a0 10))).bind fun t1221 => (if 0 ≤ (Int.tmod a0 10) then (if (Int.tmod a0 10) ≤ (wrap64 ((Int.tmod a0 10) + 1)) then (if (wrap64 ((Int.tmod a0 10) + 1)) ≤ 10 then (if t1221.size + ((⟨#[48, 49, 50, 51, 52, 53, 54, 55, 56, 57]⟩ : ByteArray).extract ((Int.tmod a0 10) : Int).toNat ((wrap64 ((Int.tmod a0 10) + 1)) : Int).toNat).size ≤ 9223372036854775807 then (some (t1221 ++ ((⟨#[48, 49, 50, 51, 52, 53, 54, 55, 56, 57]⟩ : ByteArray).extract ((Int.tmod a0 10) : Int).toNat ((wrap64 ((Int.tmod a0 10) + 1)) : Int).toNat))) else (none)) else (none)) else (none)) else (none))))) = some r := h
 clear h
 by_cases c2 : a0 < 0
 ·rw [if_pos c2] at H
  have c2b0 : decide (a0 < 0) = true := decide_eq_true c2
  clear c2
  by_cases c3 : a0 > (-10)
  ·rw [if_pos c3] at H
   have c3b0 : decide ((-10) < a0) = true := decide_eq_true c3
   clear c3
   replace H := Option.bind_eq_some_iff.mp H
   obtain ⟨t1218, A40, H⟩ := H
   replace H : (if 1 + t1218.size ≤ 9223372036854775807 then (some ((⟨#[45]⟩ : ByteArray) ++ t1218)) else (none)) = some r := H
   have A4 := Aside0.mk A40
   clear A40
   by_cases c5 : 1 + t1218.size ≤ 9223372036854775807
   ·rw [if_pos c5] at H
    have c5b0 := eq_true c5
    have c5b1 : decide (1 + t1218.size ≤ 9223372036854775807) = true := decide_eq_true c5
    try have c5b2 : (9223372036854775807 < 1 + t1218.size) = False := eq_false (Nat.not_lt.2 c5)
    obtain rfl := Option.some.inj H
    go_enter Tryd.func105, Tryd.ntmps105
    go_wp2_with (first | ((with_reducible refine gate_callee (f := 105) rfl ?_); refine goesL_ (some 9) rfl rfl Tryd.func105 (by kernel_rfl) rfl #[.int .i64 (wrap64 (-a0))] rfl (by (try simp only [List.map_toArray, List.map_cons, List.map_nil]); first | done | rfl | (simp only [List.length_drop, List.length_take]; rfl)) ?_; (with_reducible refine (ih k (by omega) (wrap64 (-a0)) t1218 _ A4.out).mono ?_); rintro e w6 ⟨rfl, hb⟩; refine ⟨_, rfl, ?_⟩; have n0_ := Aside0.mk (below_step (by repeat (first | (with_reducible first | apply below_alloc | apply pw_below_drewN | apply below_drew1) | exact HB.out)) hb); clear HB; have HB := n0_; clear n0_; (try clear hb); (try clear hb2); (try clear hk); (try clear hi)))
    go_ret
    exact ⟨by first | rfl | (simp [*, errW_none, errW_some] <;> rfl), by repeat (first | (with_reducible first | apply below_alloc | apply pw_below_drewN | apply below_drew1) | exact HB.out)⟩
   ·rw [if_neg c5] at H
    exact absurd H (by simp)
  ·rw [if_neg c3] at H
   have c3b0 : decide ((-10) < a0) = false := decide_eq_false c3
   clear c3
   replace H := Option.bind_eq_some_iff.mp H
   obtain ⟨t1219, A70, H⟩ := H
   replace H : ((spec_l1Num.f k (wrap64 (-(Int.tmod a0 10)))).bind fun t1220 => (if t1219.size + t1220.size ≤ 9223372036854775807 then (some (t1219 ++ t1220)) else (none))) = some r := H
   have A7 := Aside0.mk A70
   clear A70
   replace H := Option.bind_eq_some_iff.mp H
   obtain ⟨t1220, A80, H⟩ := H
   replace H : (if t1219.size + t1220.size ≤ 9223372036854775807 then (some (t1219 ++ t1220)) else (none)) = some r := H
   have A8 := Aside0.mk A80
   clear A80
   by_cases c9 : t1219.size + t1220.size ≤ 9223372036854775807
   ·rw [if_pos c9] at H
    have c9b0 := eq_true c9
    have c9b1 : decide (t1219.size + t1220.size ≤ 9223372036854775807) = true := decide_eq_true c9
    try have c9b2 : (9223372036854775807 < t1219.size + t1220.size) = False := eq_false (Nat.not_lt.2 c9)
    obtain rfl := Option.some.inj H
    go_enter Tryd.func105, Tryd.ntmps105
    go_wp2_with (first | ((with_reducible refine gate_callee (f := 105) rfl ?_); refine goesL_ (some 13) rfl rfl Tryd.func105 (by kernel_rfl) rfl #[.int .i64 (wrap64 (Int.tdiv a0 10))] rfl (by (try simp only [List.map_toArray, List.map_cons, List.map_nil]); first | done | rfl | (simp only [List.length_drop, List.length_take]; rfl)) ?_; (with_reducible refine (ih k (by omega) (wrap64 (Int.tdiv a0 10)) t1219 _ A7.out).mono ?_); rintro e w10 ⟨rfl, hb⟩; refine ⟨_, rfl, ?_⟩; have n0_ := Aside0.mk (below_step (by repeat (first | (with_reducible first | apply below_alloc | apply pw_below_drewN | apply below_drew1) | exact HB.out)) hb); clear HB; have HB := n0_; clear n0_; (try clear hb); (try clear hb2); (try clear hk); (try clear hi)) | ((with_reducible refine gate_callee (f := 105) rfl ?_); refine goesL_ (some 17) rfl rfl Tryd.func105 (by kernel_rfl) rfl #[.int .i64 (wrap64 (-(Int.tmod a0 10)))] rfl (by (try simp only [List.map_toArray, List.map_cons, List.map_nil]); first | done | rfl | (simp only [List.length_drop, List.length_take]; rfl)) ?_; (with_reducible refine (ih k (by omega) (wrap64 (-(Int.tmod a0 10))) t1220 _ A8.out).mono ?_); rintro e w11 ⟨rfl, hb⟩; refine ⟨_, rfl, ?_⟩; have n0_ := Aside0.mk (below_step (by repeat (first | (with_reducible first | apply below_alloc | apply pw_below_drewN | apply below_drew1) | exact HB.out)) hb); clear HB; have HB := n0_; clear n0_; (try clear hb); (try clear hb2); (try clear hk); (try clear hi)))
    go_ret
    exact ⟨by first | rfl | (simp [*, errW_none, errW_some] <;> rfl), by repeat (first | (with_reducible first | apply below_alloc | apply pw_below_drewN | apply below_drew1) | exact HB.out)⟩
   ·rw [if_neg c9] at H
    exact absurd H (by simp)
 ·rw [if_neg c2] at H
  have c2b0 : decide (a0 < 0) = false := decide_eq_false c2
  clear c2
  by_cases c12 : a0 < 10
  ·rw [if_pos c12] at H
   have c12b0 : decide (a0 < 10) = true := decide_eq_true c12
   clear c12
   by_cases c13 : 0 ≤ a0
   ·rw [if_pos c13] at H
    have c13b0 := eq_true c13
    have c13b1 : decide (0 ≤ a0) = true := decide_eq_true c13
    clear c13
    by_cases c14 : a0 ≤ (wrap64 (a0 + 1))
    ·rw [if_pos c14] at H
     have c14b0 := eq_true c14
     have c14b1 : decide (a0 ≤ (wrap64 (a0 + 1))) = true := decide_eq_true c14
     by_cases c15 : (wrap64 (a0 + 1)) ≤ 10
     ·rw [if_pos c15] at H
      have c15b0 := eq_true c15
      have c15b1 : decide ((wrap64 (a0 + 1)) ≤ 10) = true := decide_eq_true c15
      obtain rfl := Option.some.inj H
      go_enter Tryd.func105, Tryd.ntmps105
      go_wp2
      go_ret
      exact ⟨by first | rfl | (simp [*, errW_none, errW_some] <;> rfl), by repeat (first | (with_reducible first | apply below_alloc | apply pw_below_drewN | apply below_drew1) | exact HB.out)⟩
     ·rw [if_neg c15] at H
      exact absurd H (by simp)
    ·rw [if_neg c14] at H
     exact absurd H (by simp)
   ·rw [if_neg c13] at H
    exact absurd H (by simp)
  ·rw [if_neg c12] at H
   have c12b0 : decide (a0 < 10) = false := decide_eq_false c12
   clear c12
   replace H := Option.bind_eq_some_iff.mp H
   obtain ⟨t1221, A160, H⟩ := H
   replace H : (if 0 ≤ (Int.tmod a0 10) then (if (Int.tmod a0 10) ≤ (wrap64 ((Int.tmod a0 10) + 1)) then (if (wrap64 ((Int.tmod a0 10) + 1)) ≤ 10 then (if t1221.size + ((⟨#[48, 49, 50, 51, 52, 53, 54, 55, 56, 57]⟩ : ByteArray).extract ((Int.tmod a0 10) : Int).toNat ((wrap64 ((Int.tmod a0 10) + 1)) : Int).toNat).size ≤ 9223372036854775807 then (some (t1221 ++ ((⟨#[48, 49, 50, 51, 52, 53, 54, 55, 56, 57]⟩ : ByteArray).extract ((Int.tmod a0 10) : Int).toNat ((wrap64 ((Int.tmod a0 10) + 1)) : Int).toNat))) else (none)) else (none)) else (none)) else (none)) = some r := H
   have A16 := Aside0.mk A160
   clear A160
   obtain ⟨ji17, hji17⟩ : ∃ j_ : Int, (Int.tmod a0 10) = j_ := ⟨_, rfl⟩
   replace H : (if 0 ≤ (ji17) then (if (ji17) ≤ (wrap64 ((ji17) + 1)) then (if (wrap64 ((ji17) + 1)) ≤ 10 then (if t1221.size + ((⟨#[48, 49, 50, 51, 52, 53, 54, 55, 56, 57]⟩ : ByteArray).extract ((ji17) : Int).toNat ((wrap64 ((ji17) + 1)) : Int).toNat).size ≤ 9223372036854775807 then (some (t1221 ++ ((⟨#[48, 49, 50, 51, 52, 53, 54, 55, 56, 57]⟩ : ByteArray).extract ((ji17) : Int).toNat ((wrap64 ((ji17) + 1)) : Int).toNat))) else (none)) else (none)) else (none)) else (none)) = some r := by first | (rw [hji17] at H; exact H) | (simp only [hji17] at H ⊢; exact H)
   (try rw [hji17] at A16)
   by_cases c18 : 0 ≤ (ji17)
   ·rw [if_pos c18] at H
    have c18b0 := eq_true c18
    have c18b1 : decide (0 ≤ (ji17)) = true := decide_eq_true c18
    clear c18
    by_cases c19 : (ji17) ≤ (wrap64 ((ji17) + 1))
    ·rw [if_pos c19] at H
     have c19b0 := eq_true c19
     have c19b1 : decide ((ji17) ≤ (wrap64 ((ji17) + 1))) = true := decide_eq_true c19
     by_cases c20 : (wrap64 ((ji17) + 1)) ≤ 10
     ·rw [if_pos c20] at H
      have c20b0 := eq_true c20
      have c20b1 : decide ((wrap64 ((ji17) + 1)) ≤ 10) = true := decide_eq_true c20
      by_cases c21 : t1221.size + ((⟨#[48, 49, 50, 51, 52, 53, 54, 55, 56, 57]⟩ : ByteArray).extract ((ji17) : Int).toNat ((wrap64 ((ji17) + 1)) : Int).toNat).size ≤ 9223372036854775807
      ·rw [if_pos c21] at H
       have c21b0 := eq_true c21
       have c21b1 : decide (t1221.size + ((⟨#[48, 49, 50, 51, 52, 53, 54, 55, 56, 57]⟩ : ByteArray).extract ((ji17) : Int).toNat ((wrap64 ((ji17) + 1)) : Int).toNat).size ≤ 9223372036854775807) = true := decide_eq_true c21
       try have c21b2 : (9223372036854775807 < t1221.size + ((⟨#[48, 49, 50, 51, 52, 53, 54, 55, 56, 57]⟩ : ByteArray).extract ((ji17) : Int).toNat ((wrap64 ((ji17) + 1)) : Int).toNat).size) = False := eq_false (Nat.not_lt.2 c21)
       try have c21b9 : (9223372036854775807 < t1221.size + (Int.toNat ((wrap64 ((ji17) + 1))) - Int.toNat ((ji17)))) = False := eq_false (by have h_ := c21; rw [ByteArray.size_extract, show (⟨#[48, 49, 50, 51, 52, 53, 54, 55, 56, 57]⟩ : ByteArray).size = 10 from rfl] at h_; omega)
       obtain rfl := Option.some.inj H
       go_enter Tryd.func105, Tryd.ntmps105
       try go_wp2
       have n0_ := Aside0.mk (below_drew1 HB.out)
       clear HB
       have HB := n0_
       clear n0_
       refine start_ (n := 11) (S := fun w' => True) (ds := []) #[false, false, false, false, false, false, false, false, false, false, false] (by kernel_rfl) rfl rfl trivial (fun hHeld => ?_); refine with_tabW spec_l1Num.tab7 spec_l1Num.bits7 (fun HT_ HW_ => ?_)
       generalize w.drew = w22 at HB hHeld ⊢
       refine pure_ (i := 0) (N := some 25) (v := ?_) (a' := ?_) #[true, false, false, false, false, false, false, false, false, false, false] rfl rfl (any_of HT_.out (by kernel_rfl)) (fun _ _ _ h => h) (Or.inl ⟨by rfl, ?_⟩) ?_ ?_
       rotate_left
       ·intro w'
        go_simp
        with_reducible rfl
       rotate_left
       ·simp only [Act.put, List.setIfInBounds_toArray, List.set_cons_zero, List.set_cons_succ, i64_w, i32_w]
        rfl
       refine pure_ (i := 1) (N := some 26) (v := ?_) (a' := ?_) #[true, true, false, false, false, false, false, false, false, false, false] rfl rfl (any_of HT_.out (by kernel_rfl)) (fun _ _ _ h => h) (Or.inl ⟨by rfl, ?_⟩) ?_ ?_
       rotate_left
       ·intro w'
        go_simp
        with_reducible rfl
       rotate_left
       ·simp only [Act.put, List.setIfInBounds_toArray, List.set_cons_zero, List.set_cons_succ, i64_w, i32_w]
        rfl
       refine pure_ (i := 3) (N := some 28) (v := ?_) (a' := ?_) #[true, true, false, true, false, false, false, false, false, false, false] rfl rfl (any_of HT_.out (by kernel_rfl)) (fun _ _ _ h => h) (Or.inl ⟨by rfl, ?_⟩) ?_ ?_
       rotate_left
       ·intro w'
        go_simp
        with_reducible rfl
       rotate_left
       ·simp only [Act.put, List.setIfInBounds_toArray, List.set_cons_zero, List.set_cons_succ, i64_w, i32_w]
        rfl
       refine pure_ (i := 4) (N := some 29) (v := ?_) (a' := ?_) #[true, true, false, true, true, false, false, false, false, false, false] rfl rfl (any_of HT_.out (by kernel_rfl)) (fun _ _ _ h => h) (Or.inl ⟨by rfl, ?_⟩) ?_ ?_
       rotate_left
       ·intro w'
        go_simp
        with_reducible rfl
       rotate_left
       ·simp only [Act.put, List.setIfInBounds_toArray, List.set_cons_zero, List.set_cons_succ, i64_w, i32_w]
        rfl
       refine pure_ (i := 5) (N := some 30) (v := ?_) (a' := ?_) #[true, true, false, true, true, true, false, false, false, false, false] rfl rfl (any_of HT_.out (by kernel_rfl)) (fun _ _ _ h => h) (Or.inl ⟨by rfl, ?_⟩) ?_ ?_
       rotate_left
       ·intro w'
        go_simp
        with_reducible rfl
       rotate_left
       ·simp only [Act.put, List.setIfInBounds_toArray, List.set_cons_zero, List.set_cons_succ, i64_w, i32_w]
        rfl
       refine pure_ (i := 6) (N := some 31) (v := ?_) (a' := ?_) #[true, true, false, true, true, true, true, false, false, false, false] rfl rfl (any_of HT_.out (by kernel_rfl)) (fun _ _ _ h => h) (Or.inl ⟨by rfl, ?_⟩) ?_ ?_
       rotate_left
       ·intro w'
        go_simp
        with_reducible rfl
       rotate_left
       ·simp only [Act.put, List.setIfInBounds_toArray, List.set_cons_zero, List.set_cons_succ, i64_w, i32_w]
        rfl
       refine pure_ (i := 7) (N := some 32) (v := ?_) (a' := ?_) #[true, true, false, true, true, true, true, true, false, false, false] rfl rfl (any_of HT_.out (by kernel_rfl)) (fun _ _ _ h => h) (Or.inl ⟨by rfl, ?_⟩) ?_ ?_
       rotate_left
       ·intro w'
        go_simp
        with_reducible rfl
       rotate_left
       ·simp only [Act.put, List.setIfInBounds_toArray, List.set_cons_zero, List.set_cons_succ, i64_w, i32_w]
        rfl
       refine pure_ (i := 8) (N := some 33) (v := ?_) (a' := ?_) #[true, true, false, true, true, true, true, true, true, false, false] rfl rfl (any_of HT_.out (by kernel_rfl)) (fun _ _ _ h => h) (Or.inl ⟨by rfl, ?_⟩) ?_ ?_
       rotate_left
       ·intro w'
        go_simp
        with_reducible rfl
       rotate_left
       ·simp only [Act.put, List.setIfInBounds_toArray, List.set_cons_zero, List.set_cons_succ, i64_w, i32_w]
        rfl
       refine one_ (i := 2) (N := some 27) #[true, true, true, true, true, true, true, true, true, false, false] rfl rfl (one_of HT_.out (by kernel_rfl)) (by decide) (fun K hK => ?_)
       refine goes_ Tryd.func105 (by kernel_rfl) rfl #[.int .i64 (wrap64 (Int.tdiv a0 10))] (by rfl) rfl rfl (by (try simp only [List.map_toArray, List.map_cons, List.map_nil]); first | done | rfl | (simp only [List.length_drop, List.length_take]; rfl)) ?_
       with_reducible refine (ih k (by omega) (wrap64 (Int.tdiv a0 10)) t1221 _ A16.out).mono ?_
       rintro e w23 ⟨rfl, hb⟩
       refine ⟨_, rfl, ?_⟩
       have n0_ := Aside0.mk (below_step (by repeat (first | (with_reducible first | apply below_alloc | apply pw_below_drewN | apply below_drew1) | exact HB.out)) hb)
       clear HB
       have HB := n0_
       clear n0_
       (try clear hb)
       (try clear hb2)
       (try clear hk)
       (try clear hi)
       refine hK.out _ _ trivial (fun hHeld => ?_)
       clear hK K
       refine norm_ (a' := ?_) ?_ ?_
       rotate_left
       ·show Act.put _ (some 27) _ = _
        simp only [Act.put, List.setIfInBounds_toArray, List.set_cons_zero, List.set_cons_succ, i64_w, i32_w]
        rfl
       refine pure_ (i := 9) (N := some 34) (v := ?_) (a' := ?_) #[true, true, true, true, true, true, true, true, true, true, false] rfl rfl (any_of HT_.out (by kernel_rfl)) (fun _ _ _ h => h) (Or.inl ⟨by rfl, ?_⟩) ?_ ?_
       rotate_left
       ·intro w'
        go_simp
        with_reducible rfl
       rotate_left
       ·simp only [Act.put, List.setIfInBounds_toArray, List.set_cons_zero, List.set_cons_succ, i64_w, i32_w]
        rfl
       refine pure_ (i := 10) (N := some 2) (v := ?_) (a' := ?_) #[true, true, true, true, true, true, true, true, true, true, true] rfl rfl (any_of HT_.out (by kernel_rfl)) (fun _ _ _ h => h) (Or.inl ⟨by rfl, ?_⟩) ?_ ?_
       rotate_left
       ·intro w'
        go_simp
        with_reducible rfl
       rotate_left
       ·simp only [Act.put, List.setIfInBounds_toArray, List.set_cons_zero, List.set_cons_succ, i64_w, i32_w]
        rfl
       refine done_ (done_of HT_.out (by kernel_rfl)) ?_
       try go_wp2
       go_ret
       exact ⟨by first | rfl | (simp [errW_none, errW_some] <;> rfl) | (simp only [← hji17]; first | rfl | (simp [errW_none, errW_some] <;> rfl)) | (simp [*, errW_none, errW_some] <;> rfl), by repeat (first | (with_reducible first | apply below_alloc | apply pw_below_drewN | apply below_drew1) | exact HB.out)⟩
      ·rw [if_neg c21] at H
       exact absurd H (by simp)
     ·rw [if_neg c20] at H
      exact absurd H (by simp)
    ·rw [if_neg c19] at H
     exact absurd H (by simp)
   ·rw [if_neg c18] at H
    exact absurd H (by simp)
def spec_WindowText.f (k : Nat) (a0_0 : Int) (a0_1 : Int) (a0_2 : Int) (a0_3 : Int) : Option (ByteArray) := (spec_l1Num.f k a0_0).bind fun t1223 => (if t1223.size + 1 ≤ 9223372036854775807 then ((spec_l1Num.f k a0_1).bind fun t1224 => (if (t1223 ++ (⟨#[58]⟩ : ByteArray)).size + t1224.size ≤ 9223372036854775807 then (if ((t1223 ++ (⟨#[58]⟩ : ByteArray)) ++ t1224).size + 1 ≤ 9223372036854775807 then ((spec_l1Num.f k a0_2).bind fun t1225 => (if (((t1223 ++ (⟨#[58]⟩ : ByteArray)) ++ t1224) ++ (⟨#[58]⟩ : ByteArray)).size + t1225.size ≤ 9223372036854775807 then (if ((((t1223 ++ (⟨#[58]⟩ : ByteArray)) ++ t1224) ++ (⟨#[58]⟩ : ByteArray)) ++ t1225).size + 1 ≤ 9223372036854775807 then ((spec_l1Num.f k a0_3).bind fun t1226 => (if (((((t1223 ++ (⟨#[58]⟩ : ByteArray)) ++ t1224) ++ (⟨#[58]⟩ : ByteArray)) ++ t1225) ++ (⟨#[58]⟩ : ByteArray)).size + t1226.size ≤ 9223372036854775807 then (some ((((((t1223 ++ (⟨#[58]⟩ : ByteArray)) ++ t1224) ++ (⟨#[58]⟩ : ByteArray)) ++ t1225) ++ (⟨#[58]⟩ : ByteArray)) ++ t1226)) else (none))) else (none)) else (none))) else (none)) else (none))) else (none))
def spec_WindowText.T1 : Bool × List (List Nat × List Nat) := (true, [([], []), ([0], [0]), ([1], [1]), ([2], [2]), ([], []), ([4], [4]), ([5, 2], [5]), ([3, 6], [3, 6]), ([7], [7]), ([], []), ([9], [9]), ([10, 6], [10]), ([8, 11], [8, 11]), ([12], [12]), ([], []), ([14], [14]), ([15, 11], [15]), ([13, 16], [13, 16]), ([17, 16, 0, 1, 2, 3, 4, 5, 6, 7, 8, 9, 10, 11, 12, 13, 14, 15, 16, 17], [17])])
def spec_WindowText.B1 : List Nat := [0, 1, 3, 7, 0, 16, 55, 127, 255, 0, 512, 1655, 4095, 8191, 0, 16384, 52855, 131071, 262143]
theorem spec_WindowText.tab1 : rtab .any (opsOf Tryd.f60 1) = spec_WindowText.T1 := by kernel_rfl
theorem spec_WindowText.bits1 : waitsOk spec_WindowText.T1.2 spec_WindowText.B1 = true := by kernel_rfl
set_option maxHeartbeats 8000000 in
set_option maxRecDepth 100000 in
theorem spec_WindowText.calls (k : Nat) (a0_0 : Int) (a0_1 : Int) (a0_2 : Int) (a0_3 : Int) (r : ByteArray) (w : World) (h : spec_WindowText.f k a0_0 a0_1 a0_2 a0_3 = some r) :
    Calls Tryd.prog 60 #[.agg #[.int .i64 a0_0, .int .i64 a0_1, .int .i64 a0_2, .int .i64 a0_3]] w fun e w' => e = .returned (.string r) ∧ Below w.heap.size w w' := by
 have hu28 := Tryd.underlying28
 have HB := Aside0.mk (Below.refl w.heap.size w)
 have H : ((spec_l1Num.f k a0_0).bind fun t1223 => (if t1223.size + 1 ≤ 9223372036854775807 then ((spec_l1Num.f k a0_1).bind fun t1224 => (if (t1223 ++ (⟨#[58]⟩ : ByteArray)).size + t1224.size ≤ 9223372036854775807 then (if ((t1223 ++ (⟨#[58]⟩ : ByteArray)) ++ t1224).size + 1 ≤ 9223372036854775807 then ((spec_l1Num.f k a0_2).bind fun t1225 => (if (((t1223 ++ (⟨#[58]⟩ : ByteArray)) ++ t1224) ++ (⟨#[58]⟩ : ByteArray)).size + t1225.size ≤ 9223372036854775807 then (if ((((t1223 ++ (⟨#[58]⟩ : ByteArray)) ++ t1224) ++ (⟨#[58]⟩ : ByteArray)) ++ t1225).size + 1 ≤ 9223372036854775807 then ((spec_l1Num.f k a0_3).bind fun t1226 => (if (((((t1223 ++ (⟨#[58]⟩ : ByteArray)) ++ t1224) ++ (⟨#[58]⟩ : ByteArray)) ++ t1225) ++ (⟨#[58]⟩ : ByteArray)).size + t1226.size ≤ 9223372036854775807 then (some ((((((t1223 ++ (⟨#[58]⟩ : ByteArray)) ++ t1224) ++ (⟨#[58]⟩ : ByteArray)) ++ t1225) ++ (⟨#[58]⟩ : ByteArray)) ++ t1226)) else (none))) else (none)) else (none))) else (none)) else (none))) else (none))) = some r := h
 clear h
 replace H := Option.bind_eq_some_iff.mp H
 obtain ⟨t1223, A20, H⟩ := H
 replace H : (if t1223.size + 1 ≤ 9223372036854775807 then ((spec_l1Num.f k a0_1).bind fun t1224 => (if (t1223 ++ (⟨#[58]⟩ : ByteArray)).size + t1224.size ≤ 9223372036854775807 then (if ((t1223 ++ (⟨#[58]⟩ : ByteArray)) ++ t1224).size + 1 ≤ 9223372036854775807 then ((spec_l1Num.f k a0_2).bind fun t1225 => (if (((t1223 ++ (⟨#[58]⟩ : ByteArray)) ++ t1224) ++ (⟨#[58]⟩ : ByteArray)).size + t1225.size ≤ 9223372036854775807 then (if ((((t1223 ++ (⟨#[58]⟩ : ByteArray)) ++ t1224) ++ (⟨#[58]⟩ : ByteArray)) ++ t1225).size + 1 ≤ 9223372036854775807 then ((spec_l1Num.f k a0_3).bind fun t1226 => (if (((((t1223 ++ (⟨#[58]⟩ : ByteArray)) ++ t1224) ++ (⟨#[58]⟩ : ByteArray)) ++ t1225) ++ (⟨#[58]⟩ : ByteArray)).size + t1226.size ≤ 9223372036854775807 then (some ((((((t1223 ++ (⟨#[58]⟩ : ByteArray)) ++ t1224) ++ (⟨#[58]⟩ : ByteArray)) ++ t1225) ++ (⟨#[58]⟩ : ByteArray)) ++ t1226)) else (none))) else (none)) else (none))) else (none)) else (none))) else (none)) = some r := H
 have A2 := Aside0.mk A20
 clear A20
 by_cases c3 : t1223.size + 1 ≤ 9223372036854775807
 ·rw [if_pos c3] at H
  have c3b0 := eq_true c3
  have c3b1 : decide (t1223.size + 1 ≤ 9223372036854775807) = true := decide_eq_true c3
  try have c3b2 : (9223372036854775807 < t1223.size + 1) = False := eq_false (Nat.not_lt.2 c3)
  replace H := Option.bind_eq_some_iff.mp H
  obtain ⟨t1224, A40, H⟩ := H
  replace H : (if (t1223 ++ (⟨#[58]⟩ : ByteArray)).size + t1224.size ≤ 9223372036854775807 then (if ((t1223 ++ (⟨#[58]⟩ : ByteArray)) ++ t1224).size + 1 ≤ 9223372036854775807 then ((spec_l1Num.f k a0_2).bind fun t1225 => (if (((t1223 ++ (⟨#[58]⟩ : ByteArray)) ++ t1224) ++ (⟨#[58]⟩ : ByteArray)).size + t1225.size ≤ 9223372036854775807 then (if ((((t1223 ++ (⟨#[58]⟩ : ByteArray)) ++ t1224) ++ (⟨#[58]⟩ : ByteArray)) ++ t1225).size + 1 ≤ 9223372036854775807 then ((spec_l1Num.f k a0_3).bind fun t1226 => (if (((((t1223 ++ (⟨#[58]⟩ : ByteArray)) ++ t1224) ++ (⟨#[58]⟩ : ByteArray)) ++ t1225) ++ (⟨#[58]⟩ : ByteArray)).size + t1226.size ≤ 9223372036854775807 then (some ((((((t1223 ++ (⟨#[58]⟩ : ByteArray)) ++ t1224) ++ (⟨#[58]⟩ : ByteArray)) ++ t1225) ++ (⟨#[58]⟩ : ByteArray)) ++ t1226)) else (none))) else (none)) else (none))) else (none)) else (none)) = some r := H
  have A4 := Aside0.mk A40
  clear A40
  by_cases c5 : (t1223 ++ (⟨#[58]⟩ : ByteArray)).size + t1224.size ≤ 9223372036854775807
  ·rw [if_pos c5] at H
   have c5b0 := eq_true c5
   have c5b7 := c5
   (try simp only [ByteArray.size_append, show (⟨#[58]⟩ : ByteArray).size = 1 from rfl] at c5b7)
   try have c5b8 := eq_false (Nat.not_lt.2 c5b7)
   replace c5b7 := eq_true c5b7
   have c5b1 : decide ((t1223 ++ (⟨#[58]⟩ : ByteArray)).size + t1224.size ≤ 9223372036854775807) = true := decide_eq_true c5
   try have c5b2 : (9223372036854775807 < (t1223 ++ (⟨#[58]⟩ : ByteArray)).size + t1224.size) = False := eq_false (Nat.not_lt.2 c5)
   by_cases c6 : ((t1223 ++ (⟨#[58]⟩ : ByteArray)) ++ t1224).size + 1 ≤ 9223372036854775807
   ·rw [if_pos c6] at H
    have c6b0 := eq_true c6
    have c6b7 := c6
    (try simp only [ByteArray.size_append, show (⟨#[58]⟩ : ByteArray).size = 1 from rfl] at c6b7)
    try have c6b8 := eq_false (Nat.not_lt.2 c6b7)
    replace c6b7 := eq_true c6b7
    have c6b1 : decide (((t1223 ++ (⟨#[58]⟩ : ByteArray)) ++ t1224).size + 1 ≤ 9223372036854775807) = true := decide_eq_true c6
    try have c6b2 : (9223372036854775807 < ((t1223 ++ (⟨#[58]⟩ : ByteArray)) ++ t1224).size + 1) = False := eq_false (Nat.not_lt.2 c6)
    replace H := Option.bind_eq_some_iff.mp H
    obtain ⟨t1225, A70, H⟩ := H
    replace H : (if (((t1223 ++ (⟨#[58]⟩ : ByteArray)) ++ t1224) ++ (⟨#[58]⟩ : ByteArray)).size + t1225.size ≤ 9223372036854775807 then (if ((((t1223 ++ (⟨#[58]⟩ : ByteArray)) ++ t1224) ++ (⟨#[58]⟩ : ByteArray)) ++ t1225).size + 1 ≤ 9223372036854775807 then ((spec_l1Num.f k a0_3).bind fun t1226 => (if (((((t1223 ++ (⟨#[58]⟩ : ByteArray)) ++ t1224) ++ (⟨#[58]⟩ : ByteArray)) ++ t1225) ++ (⟨#[58]⟩ : ByteArray)).size + t1226.size ≤ 9223372036854775807 then (some ((((((t1223 ++ (⟨#[58]⟩ : ByteArray)) ++ t1224) ++ (⟨#[58]⟩ : ByteArray)) ++ t1225) ++ (⟨#[58]⟩ : ByteArray)) ++ t1226)) else (none))) else (none)) else (none)) = some r := H
    have A7 := Aside0.mk A70
    clear A70
    by_cases c8 : (((t1223 ++ (⟨#[58]⟩ : ByteArray)) ++ t1224) ++ (⟨#[58]⟩ : ByteArray)).size + t1225.size ≤ 9223372036854775807
    ·rw [if_pos c8] at H
     have c8b0 := eq_true c8
     have c8b7 := c8
     (try simp only [ByteArray.size_append, show (⟨#[58]⟩ : ByteArray).size = 1 from rfl] at c8b7)
     try have c8b8 := eq_false (Nat.not_lt.2 c8b7)
     replace c8b7 := eq_true c8b7
     have c8b1 : decide ((((t1223 ++ (⟨#[58]⟩ : ByteArray)) ++ t1224) ++ (⟨#[58]⟩ : ByteArray)).size + t1225.size ≤ 9223372036854775807) = true := decide_eq_true c8
     try have c8b2 : (9223372036854775807 < (((t1223 ++ (⟨#[58]⟩ : ByteArray)) ++ t1224) ++ (⟨#[58]⟩ : ByteArray)).size + t1225.size) = False := eq_false (Nat.not_lt.2 c8)
     by_cases c9 : ((((t1223 ++ (⟨#[58]⟩ : ByteArray)) ++ t1224) ++ (⟨#[58]⟩ : ByteArray)) ++ t1225).size + 1 ≤ 9223372036854775807
     ·rw [if_pos c9] at H
      have c9b0 := eq_true c9
      have c9b7 := c9
      (try simp only [ByteArray.size_append, show (⟨#[58]⟩ : ByteArray).size = 1 from rfl] at c9b7)
      try have c9b8 := eq_false (Nat.not_lt.2 c9b7)
      replace c9b7 := eq_true c9b7
      have c9b1 : decide (((((t1223 ++ (⟨#[58]⟩ : ByteArray)) ++ t1224) ++ (⟨#[58]⟩ : ByteArray)) ++ t1225).size + 1 ≤ 9223372036854775807) = true := decide_eq_true c9
      try have c9b2 : (9223372036854775807 < ((((t1223 ++ (⟨#[58]⟩ : ByteArray)) ++ t1224) ++ (⟨#[58]⟩ : ByteArray)) ++ t1225).size + 1) = False := eq_false (Nat.not_lt.2 c9)
      replace H := Option.bind_eq_some_iff.mp H
      obtain ⟨t1226, A100, H⟩ := H
      replace H : (if (((((t1223 ++ (⟨#[58]⟩ : ByteArray)) ++ t1224) ++ (⟨#[58]⟩ : ByteArray)) ++ t1225) ++ (⟨#[58]⟩ : ByteArray)).size + t1226.size ≤ 9223372036854775807 then (some ((((((t1223 ++ (⟨#[58]⟩ : ByteArray)) ++ t1224) ++ (⟨#[58]⟩ : ByteArray)) ++ t1225) ++ (⟨#[58]⟩ : ByteArray)) ++ t1226)) else (none)) = some r := H
      have A10 := Aside0.mk A100
      clear A100
      by_cases c11 : (((((t1223 ++ (⟨#[58]⟩ : ByteArray)) ++ t1224) ++ (⟨#[58]⟩ : ByteArray)) ++ t1225) ++ (⟨#[58]⟩ : ByteArray)).size + t1226.size ≤ 9223372036854775807
      ·rw [if_pos c11] at H
       have c11b0 := eq_true c11
       have c11b7 := c11
       (try simp only [ByteArray.size_append, show (⟨#[58]⟩ : ByteArray).size = 1 from rfl] at c11b7)
       try have c11b8 := eq_false (Nat.not_lt.2 c11b7)
       replace c11b7 := eq_true c11b7
       have c11b1 : decide ((((((t1223 ++ (⟨#[58]⟩ : ByteArray)) ++ t1224) ++ (⟨#[58]⟩ : ByteArray)) ++ t1225) ++ (⟨#[58]⟩ : ByteArray)).size + t1226.size ≤ 9223372036854775807) = true := decide_eq_true c11
       try have c11b2 : (9223372036854775807 < (((((t1223 ++ (⟨#[58]⟩ : ByteArray)) ++ t1224) ++ (⟨#[58]⟩ : ByteArray)) ++ t1225) ++ (⟨#[58]⟩ : ByteArray)).size + t1226.size) = False := eq_false (Nat.not_lt.2 c11)
       obtain rfl := Option.some.inj H
       go_enter Tryd.func60, Tryd.ntmps60
       try go_wp2_with (first | ((with_reducible refine gate_dst (N := 1) rfl ?_); refine box_event ?hg (N := 1) ?hd (cs := #[.int .i64 a0_0, .int .i64 a0_1, .int .i64 a0_2, .int .i64 a0_3]) (t := 28) ?hr ?_; (case hd => rfl); (case hg => rfl); (case hr => first | (go_simp; done) | (go_simp; rfl)); intro gb1222 hg w12 hbox hb; have n0_ := Aside0.mk (below_step (by repeat (first | (with_reducible first | apply below_alloc | apply pw_below_drewN | apply below_drew1) | exact HB.out)) hb); have n1_ := Aside0.mk (hbox); have n2_ := Aside0.mk ((by rw [hg]; exact (below_size (by repeat (first | (with_reducible first | apply below_alloc | apply pw_below_drewN | apply below_drew1) | exact HB.out))) : w.heap.size ≤ gb1222)); have n3_ := Aside0.mk ((by rw [hg]; exact (below_size (by repeat (first | (with_reducible first | apply below_alloc | apply pw_below_drewN | apply below_drew1) | exact HB.out))) : w.heap.size ≤ gb1222)); clear HB; have HB := n0_; have BK1222 := n1_; have GW1222 := n2_; have GE1222 := n3_; clear n0_ n1_ n2_ n3_; clear hb hbox hg))
       have n0_ := Aside0.mk (blk_drew BK1222.out)
       have n1_ := Aside0.mk (below_drew1 HB.out)
       clear BK1222
       clear HB
       have BK1222 := n0_
       have HB := n1_
       clear n0_ n1_
       refine start_ (n := 19) (S := fun w' => w'.cell? ⟨gb1222, 0, none⟩ = some (.int .i64 a0_0) ∧ w'.cell? ⟨gb1222, 1, none⟩ = some (.int .i64 a0_1) ∧ w'.cell? ⟨gb1222, 2, none⟩ = some (.int .i64 a0_2) ∧ w'.cell? ⟨gb1222, 3, none⟩ = some (.int .i64 a0_3)) (ds := []) #[false, false, false, false, false, false, false, false, false, false, false, false, false, false, false, false, false, false, false] (by kernel_rfl) rfl rfl ⟨(blk_cell BK1222.out 0).trans rfl, (blk_cell BK1222.out 1).trans rfl, (blk_cell BK1222.out 2).trans rfl, (blk_cell BK1222.out 3).trans rfl⟩ (fun hHeld => ?_); refine with_tabW spec_WindowText.tab1 spec_WindowText.bits1 (fun HT_ HW_ => ?_)
       generalize w12.drew = w13 at BK1222 HB hHeld ⊢
       refine pure_ (i := 0) (N := some 3) (v := ?_) (a' := ?_) #[true, false, false, false, false, false, false, false, false, false, false, false, false, false, false, false, false, false, false] rfl rfl (any_of HT_.out (by kernel_rfl)) (fun _ _ _ h => h) (Or.inl ⟨by rfl, ?_⟩) ?_ ?_
       rotate_left
       ·intro w'
        go_simp
        with_reducible rfl
       rotate_left
       ·simp only [Act.put, List.setIfInBounds_toArray, List.set_cons_zero, List.set_cons_succ, i64_w, i32_w]
        rfl
       refine pure_ (i := 4) (N := some 7) (v := ?_) (a' := ?_) #[true, false, false, false, true, false, false, false, false, false, false, false, false, false, false, false, false, false, false] rfl rfl (any_of HT_.out (by kernel_rfl)) (fun _ _ _ h => h) (Or.inl ⟨by rfl, ?_⟩) ?_ ?_
       rotate_left
       ·intro w'
        go_simp
        with_reducible rfl
       rotate_left
       ·simp only [Act.put, List.setIfInBounds_toArray, List.set_cons_zero, List.set_cons_succ, i64_w, i32_w]
        rfl
       refine pure_ (i := 9) (N := some 12) (v := ?_) (a' := ?_) #[true, false, false, false, true, false, false, false, false, true, false, false, false, false, false, false, false, false, false] rfl rfl (any_of HT_.out (by kernel_rfl)) (fun _ _ _ h => h) (Or.inl ⟨by rfl, ?_⟩) ?_ ?_
       rotate_left
       ·intro w'
        go_simp
        with_reducible rfl
       rotate_left
       ·simp only [Act.put, List.setIfInBounds_toArray, List.set_cons_zero, List.set_cons_succ, i64_w, i32_w]
        rfl
       refine pure_ (i := 14) (N := some 17) (v := ?_) (a' := ?_) #[true, false, false, false, true, false, false, false, false, true, false, false, false, false, true, false, false, false, false] rfl rfl (any_of HT_.out (by kernel_rfl)) (fun _ _ _ h => h) (Or.inl ⟨by rfl, ?_⟩) ?_ ?_
       rotate_left
       ·intro w'
        go_simp
        with_reducible rfl
       rotate_left
       ·simp only [Act.put, List.setIfInBounds_toArray, List.set_cons_zero, List.set_cons_succ, i64_w, i32_w]
        rfl
       refine take_ (i := 1) (N := some 4) (v := ?_) (a' := ?_) #[true, true, false, false, true, false, false, false, false, true, false, false, false, false, true, false, false, false, false] rfl rfl (take_ofW HT_.out HW_.out (by kernel_rfl)) (fun _ _ _ h => h) (Or.inl ⟨by rfl, ?_⟩) hHeld ?_ ?_
       rotate_left
       ·rintro w' ⟨s0, s1, s2, s3⟩
        go_simp
        with_reducible rfl
       rotate_left
       ·simp only [Act.put, List.setIfInBounds_toArray, List.set_cons_zero, List.set_cons_succ, i64_w, i32_w]
        rfl
       refine take_ (i := 5) (N := some 8) (v := ?_) (a' := ?_) #[true, true, false, false, true, true, false, false, false, true, false, false, false, false, true, false, false, false, false] rfl rfl (take_ofW HT_.out HW_.out (by kernel_rfl)) (fun _ _ _ h => h) (Or.inl ⟨by rfl, ?_⟩) hHeld ?_ ?_
       rotate_left
       ·rintro w' ⟨s0, s1, s2, s3⟩
        go_simp
        with_reducible rfl
       rotate_left
       ·simp only [Act.put, List.setIfInBounds_toArray, List.set_cons_zero, List.set_cons_succ, i64_w, i32_w]
        rfl
       refine take_ (i := 10) (N := some 13) (v := ?_) (a' := ?_) #[true, true, false, false, true, true, false, false, false, true, true, false, false, false, true, false, false, false, false] rfl rfl (take_ofW HT_.out HW_.out (by kernel_rfl)) (fun _ _ _ h => h) (Or.inl ⟨by rfl, ?_⟩) hHeld ?_ ?_
       rotate_left
       ·rintro w' ⟨s0, s1, s2, s3⟩
        go_simp
        with_reducible rfl
       rotate_left
       ·simp only [Act.put, List.setIfInBounds_toArray, List.set_cons_zero, List.set_cons_succ, i64_w, i32_w]
        rfl
       refine take_ (i := 15) (N := some 18) (v := ?_) (a' := ?_) #[true, true, false, false, true, true, false, false, false, true, true, false, false, false, true, true, false, false, false] rfl rfl (take_ofW HT_.out HW_.out (by kernel_rfl)) (fun _ _ _ h => h) (Or.inl ⟨by rfl, ?_⟩) hHeld ?_ ?_
       rotate_left
       ·rintro w' ⟨s0, s1, s2, s3⟩
        go_simp
        with_reducible rfl
       rotate_left
       ·simp only [Act.put, List.setIfInBounds_toArray, List.set_cons_zero, List.set_cons_succ, i64_w, i32_w]
        rfl
       refine one_ (i := 2) (N := some 5) #[true, true, true, false, true, true, false, false, false, true, true, false, false, false, true, true, false, false, false] rfl rfl (one_of HT_.out (by kernel_rfl)) (by decide) (fun K hK => ?_)
       refine goes_ Tryd.func105 (by kernel_rfl) rfl #[.int .i64 a0_0] (by rfl) rfl rfl (by (try simp only [List.map_toArray, List.map_cons, List.map_nil]); first | done | rfl | (simp only [List.length_drop, List.length_take]; rfl)) ?_
       with_reducible refine (spec_l1Num.calls k a0_0 t1223 _ A2.out).mono ?_
       rintro e w14 ⟨rfl, hb⟩
       refine ⟨_, rfl, ?_⟩
       have n0_ := Aside0.mk (blk_below (g := gb1222) (o := .cells #[.int .i64 a0_0, .int .i64 a0_1, .int .i64 a0_2, .int .i64 a0_3] 28 (0, 0)) (by (with_reducible repeat (first | apply blk_drewN | apply blk_drew | apply blk_alloc)); exact BK1222.out) hb)
       have n1_ := Aside0.mk (below_step (by repeat (first | (with_reducible first | apply below_alloc | apply pw_below_drewN | apply below_drew1 | refine below_set ?_ GE1222.out) | exact HB.out)) hb)
       clear BK1222
       clear HB
       have BK1222 := n0_
       have HB := n1_
       clear n0_ n1_
       (try clear hb)
       (try clear hb2)
       (try clear hk)
       (try clear hi)
       refine hK.out _ _ ⟨(blk_cell BK1222.out 0).trans rfl, (blk_cell BK1222.out 1).trans rfl, (blk_cell BK1222.out 2).trans rfl, (blk_cell BK1222.out 3).trans rfl⟩ (fun hHeld => ?_)
       clear hK K
       refine norm_ (a' := ?_) ?_ ?_
       rotate_left
       ·show Act.put _ (some 5) _ = _
        simp only [Act.put, List.setIfInBounds_toArray, List.set_cons_zero, List.set_cons_succ, i64_w, i32_w]
        rfl
       refine pure_ (i := 3) (N := some 6) (v := ?_) (a' := ?_) #[true, true, true, true, true, true, false, false, false, true, true, false, false, false, true, true, false, false, false] rfl rfl (any_of HT_.out (by kernel_rfl)) (fun _ _ _ h => h) (Or.inl ⟨by rfl, ?_⟩) ?_ ?_
       rotate_left
       ·intro w'
        go_simp
        with_reducible rfl
       rotate_left
       ·simp only [Act.put, List.setIfInBounds_toArray, List.set_cons_zero, List.set_cons_succ, i64_w, i32_w]
        rfl
       refine one_ (i := 6) (N := some 9) #[true, true, true, true, true, true, true, false, false, true, true, false, false, false, true, true, false, false, false] rfl rfl (one_of HT_.out (by kernel_rfl)) (by decide) (fun K hK => ?_)
       refine goes_ Tryd.func105 (by kernel_rfl) rfl #[.int .i64 a0_1] (by rfl) rfl rfl (by (try simp only [List.map_toArray, List.map_cons, List.map_nil]); first | done | rfl | (simp only [List.length_drop, List.length_take]; rfl)) ?_
       with_reducible refine (spec_l1Num.calls k a0_1 t1224 _ A4.out).mono ?_
       rintro e w15 ⟨rfl, hb⟩
       refine ⟨_, rfl, ?_⟩
       have n0_ := Aside0.mk (blk_below (g := gb1222) (o := .cells #[.int .i64 a0_0, .int .i64 a0_1, .int .i64 a0_2, .int .i64 a0_3] 28 (0, 0)) (by (with_reducible repeat (first | apply blk_drewN | apply blk_drew | apply blk_alloc)); exact BK1222.out) hb)
       have n1_ := Aside0.mk (below_step (by repeat (first | (with_reducible first | apply below_alloc | apply pw_below_drewN | apply below_drew1 | refine below_set ?_ GE1222.out) | exact HB.out)) hb)
       clear BK1222
       clear HB
       have BK1222 := n0_
       have HB := n1_
       clear n0_ n1_
       (try clear hb)
       (try clear hb2)
       (try clear hk)
       (try clear hi)
       refine hK.out _ _ ⟨(blk_cell BK1222.out 0).trans rfl, (blk_cell BK1222.out 1).trans rfl, (blk_cell BK1222.out 2).trans rfl, (blk_cell BK1222.out 3).trans rfl⟩ (fun hHeld => ?_)
       clear hK K
       refine norm_ (a' := ?_) ?_ ?_
       rotate_left
       ·show Act.put _ (some 9) _ = _
        simp only [Act.put, List.setIfInBounds_toArray, List.set_cons_zero, List.set_cons_succ, i64_w, i32_w]
        rfl
       refine pure_ (i := 7) (N := some 10) (v := ?_) (a' := ?_) #[true, true, true, true, true, true, true, true, false, true, true, false, false, false, true, true, false, false, false] rfl rfl (any_of HT_.out (by kernel_rfl)) (fun _ _ _ h => h) (Or.inl ⟨by rfl, ?_⟩) ?_ ?_
       rotate_left
       ·intro w'
        go_simp
        with_reducible rfl
       rotate_left
       ·simp only [Act.put, List.setIfInBounds_toArray, List.set_cons_zero, List.set_cons_succ, i64_w, i32_w]
        rfl
       refine pure_ (i := 8) (N := some 11) (v := ?_) (a' := ?_) #[true, true, true, true, true, true, true, true, true, true, true, false, false, false, true, true, false, false, false] rfl rfl (any_of HT_.out (by kernel_rfl)) (fun _ _ _ h => h) (Or.inl ⟨by rfl, ?_⟩) ?_ ?_
       rotate_left
       ·intro w'
        go_simp
        with_reducible rfl
       rotate_left
       ·simp only [Act.put, List.setIfInBounds_toArray, List.set_cons_zero, List.set_cons_succ, i64_w, i32_w]
        rfl
       refine one_ (i := 11) (N := some 14) #[true, true, true, true, true, true, true, true, true, true, true, true, false, false, true, true, false, false, false] rfl rfl (one_of HT_.out (by kernel_rfl)) (by decide) (fun K hK => ?_)
       refine goes_ Tryd.func105 (by kernel_rfl) rfl #[.int .i64 a0_2] (by rfl) rfl rfl (by (try simp only [List.map_toArray, List.map_cons, List.map_nil]); first | done | rfl | (simp only [List.length_drop, List.length_take]; rfl)) ?_
       with_reducible refine (spec_l1Num.calls k a0_2 t1225 _ A7.out).mono ?_
       rintro e w16 ⟨rfl, hb⟩
       refine ⟨_, rfl, ?_⟩
       have n0_ := Aside0.mk (blk_below (g := gb1222) (o := .cells #[.int .i64 a0_0, .int .i64 a0_1, .int .i64 a0_2, .int .i64 a0_3] 28 (0, 0)) (by (with_reducible repeat (first | apply blk_drewN | apply blk_drew | apply blk_alloc)); exact BK1222.out) hb)
       have n1_ := Aside0.mk (below_step (by repeat (first | (with_reducible first | apply below_alloc | apply pw_below_drewN | apply below_drew1 | refine below_set ?_ GE1222.out) | exact HB.out)) hb)
       clear BK1222
       clear HB
       have BK1222 := n0_
       have HB := n1_
       clear n0_ n1_
       (try clear hb)
       (try clear hb2)
       (try clear hk)
       (try clear hi)
       refine hK.out _ _ ⟨(blk_cell BK1222.out 0).trans rfl, (blk_cell BK1222.out 1).trans rfl, (blk_cell BK1222.out 2).trans rfl, (blk_cell BK1222.out 3).trans rfl⟩ (fun hHeld => ?_)
       clear hK K
       refine norm_ (a' := ?_) ?_ ?_
       rotate_left
       ·show Act.put _ (some 14) _ = _
        simp only [Act.put, List.setIfInBounds_toArray, List.set_cons_zero, List.set_cons_succ, i64_w, i32_w]
        rfl
       refine pure_ (i := 12) (N := some 15) (v := ?_) (a' := ?_) #[true, true, true, true, true, true, true, true, true, true, true, true, true, false, true, true, false, false, false] rfl rfl (any_of HT_.out (by kernel_rfl)) (fun _ _ _ h => h) (Or.inl ⟨by rfl, ?_⟩) ?_ ?_
       rotate_left
       ·intro w'
        go_simp
        with_reducible rfl
       rotate_left
       ·simp only [Act.put, List.setIfInBounds_toArray, List.set_cons_zero, List.set_cons_succ, i64_w, i32_w]
        rfl
       refine pure_ (i := 13) (N := some 16) (v := ?_) (a' := ?_) #[true, true, true, true, true, true, true, true, true, true, true, true, true, true, true, true, false, false, false] rfl rfl (any_of HT_.out (by kernel_rfl)) (fun _ _ _ h => h) (Or.inl ⟨by rfl, ?_⟩) ?_ ?_
       rotate_left
       ·intro w'
        go_simp
        with_reducible rfl
       rotate_left
       ·simp only [Act.put, List.setIfInBounds_toArray, List.set_cons_zero, List.set_cons_succ, i64_w, i32_w]
        rfl
       refine one_ (i := 16) (N := some 19) #[true, true, true, true, true, true, true, true, true, true, true, true, true, true, true, true, true, false, false] rfl rfl (one_of HT_.out (by kernel_rfl)) (by decide) (fun K hK => ?_)
       refine goes_ Tryd.func105 (by kernel_rfl) rfl #[.int .i64 a0_3] (by rfl) rfl rfl (by (try simp only [List.map_toArray, List.map_cons, List.map_nil]); first | done | rfl | (simp only [List.length_drop, List.length_take]; rfl)) ?_
       with_reducible refine (spec_l1Num.calls k a0_3 t1226 _ A10.out).mono ?_
       rintro e w17 ⟨rfl, hb⟩
       refine ⟨_, rfl, ?_⟩
       have n0_ := Aside0.mk (blk_below (g := gb1222) (o := .cells #[.int .i64 a0_0, .int .i64 a0_1, .int .i64 a0_2, .int .i64 a0_3] 28 (0, 0)) (by (with_reducible repeat (first | apply blk_drewN | apply blk_drew | apply blk_alloc)); exact BK1222.out) hb)
       have n1_ := Aside0.mk (below_step (by repeat (first | (with_reducible first | apply below_alloc | apply pw_below_drewN | apply below_drew1 | refine below_set ?_ GE1222.out) | exact HB.out)) hb)
       clear BK1222
       clear HB
       have BK1222 := n0_
       have HB := n1_
       clear n0_ n1_
       (try clear hb)
       (try clear hb2)
       (try clear hk)
       (try clear hi)
       refine hK.out _ _ ⟨(blk_cell BK1222.out 0).trans rfl, (blk_cell BK1222.out 1).trans rfl, (blk_cell BK1222.out 2).trans rfl, (blk_cell BK1222.out 3).trans rfl⟩ (fun hHeld => ?_)
       clear hK K
       refine norm_ (a' := ?_) ?_ ?_
       rotate_left
       ·show Act.put _ (some 19) _ = _
        simp only [Act.put, List.setIfInBounds_toArray, List.set_cons_zero, List.set_cons_succ, i64_w, i32_w]
        rfl
       refine pure_ (i := 17) (N := some 20) (v := ?_) (a' := ?_) #[true, true, true, true, true, true, true, true, true, true, true, true, true, true, true, true, true, true, false] rfl rfl (any_of HT_.out (by kernel_rfl)) (fun _ _ _ h => h) (Or.inl ⟨by rfl, ?_⟩) ?_ ?_
       rotate_left
       ·intro w'
        go_simp
        with_reducible rfl
       rotate_left
       ·simp only [Act.put, List.setIfInBounds_toArray, List.set_cons_zero, List.set_cons_succ, i64_w, i32_w]
        rfl
       refine pure_ (i := 18) (N := some 2) (v := ?_) (a' := ?_) #[true, true, true, true, true, true, true, true, true, true, true, true, true, true, true, true, true, true, true] rfl rfl (any_of HT_.out (by kernel_rfl)) (fun _ _ _ h => h) (Or.inl ⟨by rfl, ?_⟩) ?_ ?_
       rotate_left
       ·intro w'
        go_simp
        with_reducible rfl
       rotate_left
       ·simp only [Act.put, List.setIfInBounds_toArray, List.set_cons_zero, List.set_cons_succ, i64_w, i32_w]
        rfl
       refine done_ (done_of HT_.out (by kernel_rfl)) ?_
       try go_wp2
       go_ret
       exact ⟨by first | rfl | (simp [*, errW_none, errW_some] <;> rfl), by repeat (first | (with_reducible first | apply below_alloc | apply pw_below_drewN | apply below_drew1 | refine below_set ?_ GE1222.out) | exact HB.out)⟩
      ·rw [if_neg c11] at H
       exact absurd H (by simp)
     ·rw [if_neg c9] at H
      exact absurd H (by simp)
    ·rw [if_neg c8] at H
     exact absurd H (by simp)
   ·rw [if_neg c6] at H
    exact absurd H (by simp)
  ·rw [if_neg c5] at H
   exact absurd H (by simp)
 ·rw [if_neg c3] at H
  exact absurd H (by simp)
def laws_FnSlices.T42 : Bool × List (List Nat × List Nat) := (true, [([], []), ([], []), ([0, 1], [0, 1]), ([], []), ([3], [3]), ([2, 4], [2, 4]), ([5], [5]), ([6], [6]), ([6], [6]), ([7, 8, 6], [6, 7, 8]), ([9, 6], [6, 9]), ([6], [6]), ([6], [6]), ([6], [6]), ([12, 13, 6], [6, 12, 13]), ([11, 14, 6], [6, 11, 14]), ([15, 6], [6, 15]), ([10, 16, 6], [6, 10, 16]), ([6, 17], [6, 17])])
def laws_FnSlices.B42 : List Nat := [0, 0, 3, 0, 8, 31, 63, 127, 127, 511, 1023, 127, 127, 127, 12415, 30847, 63615, 131071, 262143]
theorem laws_FnSlices.tab42 : rtab .any (opsOf Tryd.f5 42) = laws_FnSlices.T42 := by kernel_rfl
theorem laws_FnSlices.bits42 : waitsOk laws_FnSlices.T42.2 laws_FnSlices.B42 = true := by kernel_rfl
set_option maxHeartbeats 8000000 in
set_option maxRecDepth 100000 in
theorem laws_FnSlices.walk (k : Nat) (A0 : Option Addr) (c0 : Nat) (l0 : List Int) (m : List (List Int)) (s0 s1 s2 s3 i j q : Int) (t0 t1 t2 t3 : Int) (ok : Bool) (y0 y1 y2 y3 : Int) (one : Bool) (d0 d1 d2 d3 : Int) (four is five : Bool) (lst : List Int) (g : List (List Int)) (a : Int) (x0 x1 x2 x3 : Int) (seven : Bool) (tx : ByteArray) (w : World) (hr0 : Kd.C (Kd.int .u8) w A0 l0.length l0) (hc0 : l0.length ≤ c0) (hE1 : laws_rBig.f l0 = some false) (hE2 : spec_DrawSliceThree.f k l0 = some (m, s0, s1, s2, s3, i, j, q)) (hE3 : impl_SliceThree.f k m s0 s1 s2 s3 i j q = some (t0, t1, t2, t3, ok)) (hE4 : spec_SliceThree.f k m s0 s1 s2 s3 i j q = some (t0, t1, t2, t3, ok)) (hE5 : impl_SliceTwo.f k m s0 s1 s2 s3 i j = some (y0, y1, y2, y3, one)) (hE6 : spec_SliceTwo.f k m s0 s1 s2 s3 i j = some (y0, y1, y2, y3, one)) (hE7 : impl_ClipWindow.f k m s0 s1 s2 s3 = some (d0, d1, d2, d3, four)) (hE8 : spec_ClipWindow.f k m s0 s1 s2 s3 = some (d0, d1, d2, d3, four)) (hE9 : impl_IsWindow.f k m s0 s1 s2 s3 = some (is, five)) (hE10 : spec_IsWindow.f k m s0 s1 s2 s3 = some (is, five)) (hE11 : impl_IsMemory.f k m = some five) (hE12 : impl_WindowBytes.f k m s0 s1 s2 s3 = some (lst, four)) (hE13 : spec_WindowBytes.f k m s0 s1 s2 s3 = some (lst, four)) (hE14 : laws_rBytes.f lst lst = some true) (hE15 : spec_DrawWholeWindow.f k l0 = some (g, a)) (hE16 : impl_WholeWindow.f k g a = some (x0, x1, x2, x3, seven)) (hE17 : spec_WholeWindow.f k g a = some (x0, x1, x2, x3, seven)) (hE18 : impl_WindowText.f k s0 s1 s2 s3 = some tx) (hE19 : spec_WindowText.f k s0 s1 s2 s3 = some tx) (hE20 : seven = true → ∃ al, impl_WindowBytes.f k g x0 x1 x2 x3 = some (al, true) ∧ 0 ≤ a ∧ a < (g.length : Int) ∧ laws_rBytes.f al (rd_L1 g a) = some true) (hE21 : one = true → ∃ sm, impl_WindowBytes.f k m y0 y1 y2 y3 = some (sm, true) ∧ (sm.length : Int) = wrap64 (j - i) ∧ y3 = wrap64 (s3 - i) ∧ (ok = true → y2 = t2) ∧ sm.length ≤ 1000000 ∧ ∀ n : Nat, n < sm.length → wrap64 (i + n) < (lst.length : Int) → 0 ≤ wrap64 (i + n) ∧ rd sm (n : Int) = rd lst (wrap64 (i + n))) (hE22 : ok = true → one = true) (hE23 : four = true → d2 = s2 ∧ d3 = s2) (hE24 : four = (five && is)) (HTA : Aside0 (TabA w)) :
    Calls Tryd.prog 5 #[.slice A0 l0.length c0] w fun e w' => e = .returned (.bool true) ∧ Below w.heap.size w w' := by
 have HC0 := Aside0.mk hr0
 have HL0 := Aside0.mk hc0
 clear hr0 hc0
 have E1 := Aside0.mk hE1
 have E2 := Aside0.mk hE2
 have E3 := Aside0.mk hE3
 have E4 := Aside0.mk hE4
 have E5 := Aside0.mk hE5
 have E6 := Aside0.mk hE6
 have E7 := Aside0.mk hE7
 have E8 := Aside0.mk hE8
 have E9 := Aside0.mk hE9
 have E10 := Aside0.mk hE10
 have E11 := Aside0.mk hE11
 have E12 := Aside0.mk hE12
 have E13 := Aside0.mk hE13
 have E14 := Aside0.mk hE14
 have E15 := Aside0.mk hE15
 have E16 := Aside0.mk hE16
 have E17 := Aside0.mk hE17
 have E18 := Aside0.mk hE18
 have E19 := Aside0.mk hE19
 have E20 := Aside0.mk hE20
 have E21 := Aside0.mk hE21
 have E22 := Aside0.mk hE22
 have E23 := Aside0.mk hE23
 have E24 := Aside0.mk hE24
 clear hE1 hE2 hE3 hE4 hE5 hE6 hE7 hE8 hE9 hE10 hE11 hE12 hE13 hE14 hE15 hE16 hE17 hE18 hE19 hE20 hE21 hE22 hE23 hE24
 have HB := Aside0.mk (Below.refl w.heap.size w)
 have b_t : (!(t0 == t0) || (!(t1 == t1) || (!(t2 == t2) || !(t3 == t3)))) = false := by simp
 have b_u : (!(y0 == y0) || (!(y1 == y1) || (!(y2 == y2) || !(y3 == y3)))) = false := by simp
 have b_d : (!(d0 == d0) || (!(d1 == d1) || (!(d2 == d2) || !(d3 == d3)))) = false := by simp
 have b_v : (!(x0 == x0) || (!(x1 == x1) || (!(x2 == x2) || !(x3 == x3)))) = false := by simp
 have b_ok : (ok != ok) = false := by simp
 have b_one : (one != one) = false := by simp
 have b_four : (four != four) = false := by simp
 have b_is : (is != is) = false := by simp
 have b_five : (five != five) = false := by simp
 have b_seven : (seven != seven) = false := by simp
 have b_tx : (tx.toList != tx.toList) = false := by simp
 have b_tx2 : (tx.toList == tx.toList) = true := by simp
 go_enter Tryd.func5, Tryd.ntmps5
 go_wp2_with (go_at_fn 42; fail)
 refine (laws_rBig.calls _ _ l0 false _ HC0.out HL0.out E1.out).mono ?_
 rintro e w101 ⟨rfl, hd⟩
 have hb := hd.below
 clear hd
 replace HC0 := Aside0.mk (Kd.C_below HC0.out hb)
 replace HTA := Aside0.mk (TabA.below HTA.out hb)
 replace HB := Aside0.mk (below_step HB.out hb)
 clear hb
 go_wp2_with (go_at_fn 43; fail)
 refine (spec_DrawSliceThree.calls k _ _ l0 m s0 s1 s2 s3 i j q _ HC0.out HL0.out E2.out).mono ?_
 rintro e w102 ⟨v1, rfl, ho1, hb⟩
 replace HC0 := Aside0.mk (Kd.C_below HC0.out hb)
 replace HTA := Aside0.mk (TabA.below HTA.out hb)
 replace HB := Aside0.mk (below_step HB.out hb)
 clear hb
 obtain ⟨A1, c1, eo⟩ := Kd.S_slice ho1
 subst eo
 have HC1 := Aside0.mk (Kd.S_reads' ho1).2.2
 have HL1 := Aside0.mk (Kd.S_reads' ho1).2.1
 clear ho1
 go_upto_region 4 with (first | ((with_reducible refine gate_dst (N := 3) rfl ?_); refine box_event ?hg (N := 3) ?hd (cs := #[.slice none 0 0]) (t := 26) ?hr ?_; (case hd => rfl); (case hg => rfl); (case hr => first | (go_simp; done) | (go_simp; rfl)); intro g3 hg w103 hx hb; have HG3 := Aside0.mk hg; have HX3 := Aside0.mk hx; have HD3 := Aside0.mk hb; clear hg hx hb) | ((with_reducible refine gate_dst (N := 4) rfl ?_); refine box_event ?hg (N := 4) ?hd (cs := #[.int .i64 0, .int .i64 0, .int .i64 0, .int .i64 0]) (t := 28) ?hr ?_; (case hd => rfl); (case hg => rfl); (case hr => first | (go_simp; done) | (go_simp; rfl)); intro g4 hg w104 hx hb; have HG4 := Aside0.mk hg; have HX4 := Aside0.mk hx; have HD4 := Aside0.mk hb; clear hg hx hb; have HY3 := Aside0.mk (blk_below HX3.out HD4.out); have HY4 := Aside0.mk HX4.out; have HN3_4 := Aside0.mk (show g3 ≠ g4 from by rw [HG4.out]; exact Nat.ne_of_lt (blk_lt HX3.out)); have hn3_4 := HN3_4.out; have hm3_4 := HN3_4.out.symm; have hz3_0 : w104.cell? ⟨g3, 0, none⟩ = some (.slice none 0 0) := (blk_cell HY3.out 0).trans rfl; have hf3_0 := blk_frozen HY3.out 0; have hz4_0 : w104.cell? ⟨g4, 0, none⟩ = some (.int .i64 0) := (blk_cell HY4.out 0).trans rfl; have hf4_0 := blk_frozen HY4.out 0; have hz4_1 : w104.cell? ⟨g4, 1, none⟩ = some (.int .i64 0) := (blk_cell HY4.out 1).trans rfl; have hf4_1 := blk_frozen HY4.out 1; have hz4_2 : w104.cell? ⟨g4, 2, none⟩ = some (.int .i64 0) := (blk_cell HY4.out 2).trans rfl; have hf4_2 := blk_frozen HY4.out 2; have hz4_3 : w104.cell? ⟨g4, 3, none⟩ = some (.int .i64 0) := (blk_cell HY4.out 3).trans rfl; have hf4_3 := blk_frozen HY4.out 3))
 refine hideW ?_
 intro w105 hW
 clear hz3_0 hf3_0 hz4_0 hf4_0 hz4_1 hf4_1 hz4_2 hf4_2 hz4_3 hf4_3 hn3_4 hm3_4
 have HE3 := Aside0.mk (Nat.le_of_eq HG3.out.symm)
 have HE4 := Aside0.mk (Nat.le_trans (below_size HD3.out) (Nat.le_of_eq HG4.out.symm))
 have hb : Below w102.heap.size w102 w105 := by rw [hW]; exact bel4 (bel1 (below_step HD3.out HD4.out) HE3.out) HE4.out
 have BK3 : Aside0 (w105.heap[g3]? = some (.cells #[.slice A1 m.length c1] 26 (0, 0))) := ⟨by rw [hW]; exact far4 (put1 HY3.out) HN3_4.out⟩
 have BK4 : Aside0 (w105.heap[g4]? = some (.cells #[.int .i64 s0, .int .i64 s1, .int .i64 s2, .int .i64 s3] 28 (0, 0))) := ⟨by rw [hW]; exact put4 (far1 HY4.out HN3_4.out.symm)⟩
 replace HC0 := Aside0.mk (Kd.C_below HC0.out hb)
 replace HC1 := Aside0.mk (Kd.C_below HC1.out hb)
 replace HTA := Aside0.mk (TabA.below HTA.out hb)
 replace HB := Aside0.mk (below_step HB.out hb)
 clear hb hW HG3 HX3 HD3 HY3 HE3 HG4 HX4 HD4 HY4 HE4 HN3_4
 have hz3_0 : w105.cell? ⟨g3, 0, none⟩ = some (.slice A1 m.length c1) := (blk_cell BK3.out 0).trans rfl
 have hz4_0 : w105.cell? ⟨g4, 0, none⟩ = some (.int .i64 s0) := (blk_cell BK4.out 0).trans rfl
 have hz4_1 : w105.cell? ⟨g4, 1, none⟩ = some (.int .i64 s1) := (blk_cell BK4.out 1).trans rfl
 have hz4_2 : w105.cell? ⟨g4, 2, none⟩ = some (.int .i64 s2) := (blk_cell BK4.out 2).trans rfl
 have hz4_3 : w105.cell? ⟨g4, 3, none⟩ = some (.int .i64 s3) := (blk_cell BK4.out 3).trans rfl
 go_wp2_with (go_at_fn 44; fail)
 refine (impl_SliceThree.calls k _ _ m s0 s1 s2 s3 i j q t0 t1 t2 t3 ok _ HC1.out HL1.out E3.out).mono ?_
 rintro e w106 ⟨rfl, hb⟩
 replace BK3 := Aside0.mk (blk_below BK3.out hb)
 replace BK4 := Aside0.mk (blk_below BK4.out hb)
 replace HC0 := Aside0.mk (Kd.C_below HC0.out hb)
 replace HC1 := Aside0.mk (Kd.C_below HC1.out hb)
 replace HTA := Aside0.mk (TabA.below HTA.out hb)
 replace HB := Aside0.mk (below_step HB.out hb)
 clear hb
 clear hz3_0 hz4_0 hz4_1 hz4_2 hz4_3
 go_upto_region 5 with (first | ((with_reducible refine gate_dst (N := 8) rfl ?_); refine box_event ?hg (N := 8) ?hd (cs := #[.int .i64 0, .int .i64 0, .int .i64 0, .int .i64 0]) (t := 28) ?hr ?_; (case hd => rfl); (case hg => rfl); (case hr => first | (go_simp; done) | (go_simp; rfl)); intro g8 hg w107 hx hb; have HG8 := Aside0.mk hg; have HX8 := Aside0.mk hx; have HD8 := Aside0.mk hb; clear hg hx hb; have HY8 := Aside0.mk HX8.out; have hz8_0 : w107.cell? ⟨g8, 0, none⟩ = some (.int .i64 0) := (blk_cell HY8.out 0).trans rfl; have hf8_0 := blk_frozen HY8.out 0; have hz8_1 : w107.cell? ⟨g8, 1, none⟩ = some (.int .i64 0) := (blk_cell HY8.out 1).trans rfl; have hf8_1 := blk_frozen HY8.out 1; have hz8_2 : w107.cell? ⟨g8, 2, none⟩ = some (.int .i64 0) := (blk_cell HY8.out 2).trans rfl; have hf8_2 := blk_frozen HY8.out 2; have hz8_3 : w107.cell? ⟨g8, 3, none⟩ = some (.int .i64 0) := (blk_cell HY8.out 3).trans rfl; have hf8_3 := blk_frozen HY8.out 3))
 refine hideW ?_
 intro w108 hW
 clear hz8_0 hf8_0 hz8_1 hf8_1 hz8_2 hf8_2 hz8_3 hf8_3
 have HE8 := Aside0.mk (Nat.le_of_eq HG8.out.symm)
 have hb : Below w106.heap.size w106 w108 := by rw [hW]; exact bel4 HD8.out HE8.out
 have BK8 : Aside0 (w108.heap[g8]? = some (.cells #[.int .i64 t0, .int .i64 t1, .int .i64 t2, .int .i64 t3] 28 (0, 0))) := ⟨by rw [hW]; exact put4 HY8.out⟩
 replace BK3 := Aside0.mk (blk_below BK3.out hb)
 replace BK4 := Aside0.mk (blk_below BK4.out hb)
 replace HC0 := Aside0.mk (Kd.C_below HC0.out hb)
 replace HC1 := Aside0.mk (Kd.C_below HC1.out hb)
 replace HTA := Aside0.mk (TabA.below HTA.out hb)
 replace HB := Aside0.mk (below_step HB.out hb)
 clear hb hW HG8 HX8 HD8 HY8 HE8
 have hz3_0 : w108.cell? ⟨g3, 0, none⟩ = some (.slice A1 m.length c1) := (blk_cell BK3.out 0).trans rfl
 have hz4_0 : w108.cell? ⟨g4, 0, none⟩ = some (.int .i64 s0) := (blk_cell BK4.out 0).trans rfl
 have hz4_1 : w108.cell? ⟨g4, 1, none⟩ = some (.int .i64 s1) := (blk_cell BK4.out 1).trans rfl
 have hz4_2 : w108.cell? ⟨g4, 2, none⟩ = some (.int .i64 s2) := (blk_cell BK4.out 2).trans rfl
 have hz4_3 : w108.cell? ⟨g4, 3, none⟩ = some (.int .i64 s3) := (blk_cell BK4.out 3).trans rfl
 go_wp2_with (go_at_fn 45; fail)
 refine (spec_SliceThree.calls k _ _ m s0 s1 s2 s3 i j q t0 t1 t2 t3 ok _ HC1.out HL1.out E4.out).mono ?_
 rintro e w109 ⟨rfl, hb⟩
 replace BK3 := Aside0.mk (blk_below BK3.out hb)
 replace BK4 := Aside0.mk (blk_below BK4.out hb)
 replace BK8 := Aside0.mk (blk_below BK8.out hb)
 replace HC0 := Aside0.mk (Kd.C_below HC0.out hb)
 replace HC1 := Aside0.mk (Kd.C_below HC1.out hb)
 replace HTA := Aside0.mk (TabA.below HTA.out hb)
 replace HB := Aside0.mk (below_step HB.out hb)
 clear hb
 clear hz3_0 hz4_0 hz4_1 hz4_2 hz4_3
 go_upto_region 6 with (first | ((with_reducible refine gate_dst (N := 10) rfl ?_); refine box_event ?hg (N := 10) ?hd (cs := #[.int .i64 0, .int .i64 0, .int .i64 0, .int .i64 0]) (t := 28) ?hr ?_; (case hd => rfl); (case hg => rfl); (case hr => first | (go_simp; done) | (go_simp; rfl)); intro g10 hg w110 hx hb; have HG10 := Aside0.mk hg; have HX10 := Aside0.mk hx; have HD10 := Aside0.mk hb; clear hg hx hb; have HY10 := Aside0.mk HX10.out; have hz10_0 : w110.cell? ⟨g10, 0, none⟩ = some (.int .i64 0) := (blk_cell HY10.out 0).trans rfl; have hf10_0 := blk_frozen HY10.out 0; have hz10_1 : w110.cell? ⟨g10, 1, none⟩ = some (.int .i64 0) := (blk_cell HY10.out 1).trans rfl; have hf10_1 := blk_frozen HY10.out 1; have hz10_2 : w110.cell? ⟨g10, 2, none⟩ = some (.int .i64 0) := (blk_cell HY10.out 2).trans rfl; have hf10_2 := blk_frozen HY10.out 2; have hz10_3 : w110.cell? ⟨g10, 3, none⟩ = some (.int .i64 0) := (blk_cell HY10.out 3).trans rfl; have hf10_3 := blk_frozen HY10.out 3))
 refine hideW ?_
 intro w111 hW
 clear hz10_0 hf10_0 hz10_1 hf10_1 hz10_2 hf10_2 hz10_3 hf10_3
 have HE10 := Aside0.mk (Nat.le_of_eq HG10.out.symm)
 have hb : Below w109.heap.size w109 w111 := by rw [hW]; exact bel4 HD10.out HE10.out
 have BK10 : Aside0 (w111.heap[g10]? = some (.cells #[.int .i64 t0, .int .i64 t1, .int .i64 t2, .int .i64 t3] 28 (0, 0))) := ⟨by rw [hW]; exact put4 HY10.out⟩
 replace BK3 := Aside0.mk (blk_below BK3.out hb)
 replace BK4 := Aside0.mk (blk_below BK4.out hb)
 replace BK8 := Aside0.mk (blk_below BK8.out hb)
 replace HC0 := Aside0.mk (Kd.C_below HC0.out hb)
 replace HC1 := Aside0.mk (Kd.C_below HC1.out hb)
 replace HTA := Aside0.mk (TabA.below HTA.out hb)
 replace HB := Aside0.mk (below_step HB.out hb)
 clear hb hW HG10 HX10 HD10 HY10 HE10
 have hz8_0 : w111.cell? ⟨g8, 0, none⟩ = some (.int .i64 t0) := (blk_cell BK8.out 0).trans rfl
 have hz8_1 : w111.cell? ⟨g8, 1, none⟩ = some (.int .i64 t1) := (blk_cell BK8.out 1).trans rfl
 have hz8_2 : w111.cell? ⟨g8, 2, none⟩ = some (.int .i64 t2) := (blk_cell BK8.out 2).trans rfl
 have hz8_3 : w111.cell? ⟨g8, 3, none⟩ = some (.int .i64 t3) := (blk_cell BK8.out 3).trans rfl
 have hz10_0 : w111.cell? ⟨g10, 0, none⟩ = some (.int .i64 t0) := (blk_cell BK10.out 0).trans rfl
 have hz10_1 : w111.cell? ⟨g10, 1, none⟩ = some (.int .i64 t1) := (blk_cell BK10.out 1).trans rfl
 have hz10_2 : w111.cell? ⟨g10, 2, none⟩ = some (.int .i64 t2) := (blk_cell BK10.out 2).trans rfl
 have hz10_3 : w111.cell? ⟨g10, 3, none⟩ = some (.int .i64 t3) := (blk_cell BK10.out 3).trans rfl
 go_upto_region 8 with (fail)
 clear hz8_0 hz8_1 hz8_2 hz8_3 hz10_0 hz10_1 hz10_2 hz10_3
 have hz3_0 : w111.cell? ⟨g3, 0, none⟩ = some (.slice A1 m.length c1) := (blk_cell BK3.out 0).trans rfl
 have hz4_0 : w111.cell? ⟨g4, 0, none⟩ = some (.int .i64 s0) := (blk_cell BK4.out 0).trans rfl
 have hz4_1 : w111.cell? ⟨g4, 1, none⟩ = some (.int .i64 s1) := (blk_cell BK4.out 1).trans rfl
 have hz4_2 : w111.cell? ⟨g4, 2, none⟩ = some (.int .i64 s2) := (blk_cell BK4.out 2).trans rfl
 have hz4_3 : w111.cell? ⟨g4, 3, none⟩ = some (.int .i64 s3) := (blk_cell BK4.out 3).trans rfl
 go_wp2_with (go_at_fn 46; fail)
 refine (impl_SliceTwo.calls k _ _ m s0 s1 s2 s3 i j y0 y1 y2 y3 one _ HC1.out HL1.out E5.out).mono ?_
 rintro e w112 ⟨rfl, hb⟩
 replace BK3 := Aside0.mk (blk_below BK3.out hb)
 replace BK4 := Aside0.mk (blk_below BK4.out hb)
 replace BK8 := Aside0.mk (blk_below BK8.out hb)
 replace BK10 := Aside0.mk (blk_below BK10.out hb)
 replace HC0 := Aside0.mk (Kd.C_below HC0.out hb)
 replace HC1 := Aside0.mk (Kd.C_below HC1.out hb)
 replace HTA := Aside0.mk (TabA.below HTA.out hb)
 replace HB := Aside0.mk (below_step HB.out hb)
 clear hb
 clear hz3_0 hz4_0 hz4_1 hz4_2 hz4_3
 go_upto_region 9 with (first | ((with_reducible refine gate_dst (N := 12) rfl ?_); refine box_event ?hg (N := 12) ?hd (cs := #[.int .i64 0, .int .i64 0, .int .i64 0, .int .i64 0]) (t := 28) ?hr ?_; (case hd => rfl); (case hg => rfl); (case hr => first | (go_simp; done) | (go_simp; rfl)); intro g12 hg w113 hx hb; have HG12 := Aside0.mk hg; have HX12 := Aside0.mk hx; have HD12 := Aside0.mk hb; clear hg hx hb; have HY12 := Aside0.mk HX12.out; have hz12_0 : w113.cell? ⟨g12, 0, none⟩ = some (.int .i64 0) := (blk_cell HY12.out 0).trans rfl; have hf12_0 := blk_frozen HY12.out 0; have hz12_1 : w113.cell? ⟨g12, 1, none⟩ = some (.int .i64 0) := (blk_cell HY12.out 1).trans rfl; have hf12_1 := blk_frozen HY12.out 1; have hz12_2 : w113.cell? ⟨g12, 2, none⟩ = some (.int .i64 0) := (blk_cell HY12.out 2).trans rfl; have hf12_2 := blk_frozen HY12.out 2; have hz12_3 : w113.cell? ⟨g12, 3, none⟩ = some (.int .i64 0) := (blk_cell HY12.out 3).trans rfl; have hf12_3 := blk_frozen HY12.out 3))
 refine hideW ?_
 intro w114 hW
 clear hz12_0 hf12_0 hz12_1 hf12_1 hz12_2 hf12_2 hz12_3 hf12_3
 have HE12 := Aside0.mk (Nat.le_of_eq HG12.out.symm)
 have hb : Below w112.heap.size w112 w114 := by rw [hW]; exact bel4 HD12.out HE12.out
 have BK12 : Aside0 (w114.heap[g12]? = some (.cells #[.int .i64 y0, .int .i64 y1, .int .i64 y2, .int .i64 y3] 28 (0, 0))) := ⟨by rw [hW]; exact put4 HY12.out⟩
 replace BK3 := Aside0.mk (blk_below BK3.out hb)
 replace BK4 := Aside0.mk (blk_below BK4.out hb)
 replace BK8 := Aside0.mk (blk_below BK8.out hb)
 replace BK10 := Aside0.mk (blk_below BK10.out hb)
 replace HC0 := Aside0.mk (Kd.C_below HC0.out hb)
 replace HC1 := Aside0.mk (Kd.C_below HC1.out hb)
 replace HTA := Aside0.mk (TabA.below HTA.out hb)
 replace HB := Aside0.mk (below_step HB.out hb)
 clear hb hW HG12 HX12 HD12 HY12 HE12
 have hz3_0 : w114.cell? ⟨g3, 0, none⟩ = some (.slice A1 m.length c1) := (blk_cell BK3.out 0).trans rfl
 have hz4_0 : w114.cell? ⟨g4, 0, none⟩ = some (.int .i64 s0) := (blk_cell BK4.out 0).trans rfl
 have hz4_1 : w114.cell? ⟨g4, 1, none⟩ = some (.int .i64 s1) := (blk_cell BK4.out 1).trans rfl
 have hz4_2 : w114.cell? ⟨g4, 2, none⟩ = some (.int .i64 s2) := (blk_cell BK4.out 2).trans rfl
 have hz4_3 : w114.cell? ⟨g4, 3, none⟩ = some (.int .i64 s3) := (blk_cell BK4.out 3).trans rfl
 go_wp2_with (go_at_fn 47; fail)
 refine (spec_SliceTwo.calls k _ _ m s0 s1 s2 s3 i j y0 y1 y2 y3 one _ HC1.out HL1.out E6.out).mono ?_
 rintro e w115 ⟨rfl, hb⟩
 replace BK3 := Aside0.mk (blk_below BK3.out hb)
 replace BK4 := Aside0.mk (blk_below BK4.out hb)
 replace BK8 := Aside0.mk (blk_below BK8.out hb)
 replace BK10 := Aside0.mk (blk_below BK10.out hb)
 replace BK12 := Aside0.mk (blk_below BK12.out hb)
 replace HC0 := Aside0.mk (Kd.C_below HC0.out hb)
 replace HC1 := Aside0.mk (Kd.C_below HC1.out hb)
 replace HTA := Aside0.mk (TabA.below HTA.out hb)
 replace HB := Aside0.mk (below_step HB.out hb)
 clear hb
 clear hz3_0 hz4_0 hz4_1 hz4_2 hz4_3
 go_upto_region 10 with (first | ((with_reducible refine gate_dst (N := 14) rfl ?_); refine box_event ?hg (N := 14) ?hd (cs := #[.int .i64 0, .int .i64 0, .int .i64 0, .int .i64 0]) (t := 28) ?hr ?_; (case hd => rfl); (case hg => rfl); (case hr => first | (go_simp; done) | (go_simp; rfl)); intro g14 hg w116 hx hb; have HG14 := Aside0.mk hg; have HX14 := Aside0.mk hx; have HD14 := Aside0.mk hb; clear hg hx hb; have HY14 := Aside0.mk HX14.out; have hz14_0 : w116.cell? ⟨g14, 0, none⟩ = some (.int .i64 0) := (blk_cell HY14.out 0).trans rfl; have hf14_0 := blk_frozen HY14.out 0; have hz14_1 : w116.cell? ⟨g14, 1, none⟩ = some (.int .i64 0) := (blk_cell HY14.out 1).trans rfl; have hf14_1 := blk_frozen HY14.out 1; have hz14_2 : w116.cell? ⟨g14, 2, none⟩ = some (.int .i64 0) := (blk_cell HY14.out 2).trans rfl; have hf14_2 := blk_frozen HY14.out 2; have hz14_3 : w116.cell? ⟨g14, 3, none⟩ = some (.int .i64 0) := (blk_cell HY14.out 3).trans rfl; have hf14_3 := blk_frozen HY14.out 3))
 refine hideW ?_
 intro w117 hW
 clear hz14_0 hf14_0 hz14_1 hf14_1 hz14_2 hf14_2 hz14_3 hf14_3
 have HE14 := Aside0.mk (Nat.le_of_eq HG14.out.symm)
 have hb : Below w115.heap.size w115 w117 := by rw [hW]; exact bel4 HD14.out HE14.out
 have BK14 : Aside0 (w117.heap[g14]? = some (.cells #[.int .i64 y0, .int .i64 y1, .int .i64 y2, .int .i64 y3] 28 (0, 0))) := ⟨by rw [hW]; exact put4 HY14.out⟩
 replace BK3 := Aside0.mk (blk_below BK3.out hb)
 replace BK4 := Aside0.mk (blk_below BK4.out hb)
 replace BK8 := Aside0.mk (blk_below BK8.out hb)
 replace BK10 := Aside0.mk (blk_below BK10.out hb)
 replace BK12 := Aside0.mk (blk_below BK12.out hb)
 replace HC0 := Aside0.mk (Kd.C_below HC0.out hb)
 replace HC1 := Aside0.mk (Kd.C_below HC1.out hb)
 replace HTA := Aside0.mk (TabA.below HTA.out hb)
 replace HB := Aside0.mk (below_step HB.out hb)
 clear hb hW HG14 HX14 HD14 HY14 HE14
 go_upto_region 10 with (fail)
 go_cut [105] from 91 to 105 (fun v105 wc1 => v105 = .bool false ∧ Aside0 (Below w117.heap.size w117 wc1))
 case first =>
  have hz12_0 : w117.cell? ⟨g12, 0, none⟩ = some (.int .i64 y0) := (blk_cell BK12.out 0).trans rfl
  have hz12_1 : w117.cell? ⟨g12, 1, none⟩ = some (.int .i64 y1) := (blk_cell BK12.out 1).trans rfl
  have hz12_2 : w117.cell? ⟨g12, 2, none⟩ = some (.int .i64 y2) := (blk_cell BK12.out 2).trans rfl
  have hz12_3 : w117.cell? ⟨g12, 3, none⟩ = some (.int .i64 y3) := (blk_cell BK12.out 3).trans rfl
  have hz14_0 : w117.cell? ⟨g14, 0, none⟩ = some (.int .i64 y0) := (blk_cell BK14.out 0).trans rfl
  have hz14_1 : w117.cell? ⟨g14, 1, none⟩ = some (.int .i64 y1) := (blk_cell BK14.out 1).trans rfl
  have hz14_2 : w117.cell? ⟨g14, 2, none⟩ = some (.int .i64 y2) := (blk_cell BK14.out 2).trans rfl
  have hz14_3 : w117.cell? ⟨g14, 3, none⟩ = some (.int .i64 y3) := (blk_cell BK14.out 3).trans rfl
  have h1 := E22.out
  clear E22 E3 E4 E5 E6 E21
  cases ok
  ·cases one
   ·go_wp2
    go_meet
    case rel => exact ⟨rfl, ⟨Below.refl _ _⟩⟩
   ·go_wp2
    go_meet
    case rel => exact ⟨rfl, ⟨Below.refl _ _⟩⟩
  ·have h2 := h1 rfl
   clear h1
   subst h2
   go_wp2
   go_meet
   case rel => exact ⟨rfl, ⟨Below.refl _ _⟩⟩
 case rest =>
  obtain ⟨rfl, hS⟩ := hcut
  have hb := hS.out
  clear hS
  replace BK3 := Aside0.mk (blk_below BK3.out hb)
  replace BK4 := Aside0.mk (blk_below BK4.out hb)
  replace BK8 := Aside0.mk (blk_below BK8.out hb)
  replace BK10 := Aside0.mk (blk_below BK10.out hb)
  replace BK12 := Aside0.mk (blk_below BK12.out hb)
  replace BK14 := Aside0.mk (blk_below BK14.out hb)
  replace HC0 := Aside0.mk (Kd.C_below HC0.out hb)
  replace HC1 := Aside0.mk (Kd.C_below HC1.out hb)
  replace HTA := Aside0.mk (TabA.below HTA.out hb)
  replace HB := Aside0.mk (below_step HB.out hb)
  clear hb
  have hz3_0 : wc.cell? ⟨g3, 0, none⟩ = some (.slice A1 m.length c1) := (blk_cell BK3.out 0).trans rfl
  have hz4_0 : wc.cell? ⟨g4, 0, none⟩ = some (.int .i64 s0) := (blk_cell BK4.out 0).trans rfl
  have hz4_1 : wc.cell? ⟨g4, 1, none⟩ = some (.int .i64 s1) := (blk_cell BK4.out 1).trans rfl
  have hz4_2 : wc.cell? ⟨g4, 2, none⟩ = some (.int .i64 s2) := (blk_cell BK4.out 2).trans rfl
  have hz4_3 : wc.cell? ⟨g4, 3, none⟩ = some (.int .i64 s3) := (blk_cell BK4.out 3).trans rfl
  go_wp2_with (go_at_fn 48; fail)
  refine (impl_ClipWindow.calls k _ _ m s0 s1 s2 s3 d0 d1 d2 d3 four _ HC1.out HL1.out E7.out).mono ?_
  rintro e w118 ⟨rfl, hb⟩
  replace BK3 := Aside0.mk (blk_below BK3.out hb)
  replace BK4 := Aside0.mk (blk_below BK4.out hb)
  replace BK8 := Aside0.mk (blk_below BK8.out hb)
  replace BK10 := Aside0.mk (blk_below BK10.out hb)
  replace BK12 := Aside0.mk (blk_below BK12.out hb)
  replace BK14 := Aside0.mk (blk_below BK14.out hb)
  replace HC0 := Aside0.mk (Kd.C_below HC0.out hb)
  replace HC1 := Aside0.mk (Kd.C_below HC1.out hb)
  replace HTA := Aside0.mk (TabA.below HTA.out hb)
  replace HB := Aside0.mk (below_step HB.out hb)
  clear hb
  clear hz3_0 hz4_0 hz4_1 hz4_2 hz4_3
  go_upto_region 13 with (first | ((with_reducible refine gate_dst (N := 16) rfl ?_); refine box_event ?hg (N := 16) ?hd (cs := #[.int .i64 0, .int .i64 0, .int .i64 0, .int .i64 0]) (t := 28) ?hr ?_; (case hd => rfl); (case hg => rfl); (case hr => first | (go_simp; done) | (go_simp; rfl)); intro g16 hg w119 hx hb; have HG16 := Aside0.mk hg; have HX16 := Aside0.mk hx; have HD16 := Aside0.mk hb; clear hg hx hb; have HY16 := Aside0.mk HX16.out; have hz16_0 : w119.cell? ⟨g16, 0, none⟩ = some (.int .i64 0) := (blk_cell HY16.out 0).trans rfl; have hf16_0 := blk_frozen HY16.out 0; have hz16_1 : w119.cell? ⟨g16, 1, none⟩ = some (.int .i64 0) := (blk_cell HY16.out 1).trans rfl; have hf16_1 := blk_frozen HY16.out 1; have hz16_2 : w119.cell? ⟨g16, 2, none⟩ = some (.int .i64 0) := (blk_cell HY16.out 2).trans rfl; have hf16_2 := blk_frozen HY16.out 2; have hz16_3 : w119.cell? ⟨g16, 3, none⟩ = some (.int .i64 0) := (blk_cell HY16.out 3).trans rfl; have hf16_3 := blk_frozen HY16.out 3))
  refine hideW ?_
  intro w120 hW
  clear hz16_0 hf16_0 hz16_1 hf16_1 hz16_2 hf16_2 hz16_3 hf16_3
  have HE16 := Aside0.mk (Nat.le_of_eq HG16.out.symm)
  have hb : Below w118.heap.size w118 w120 := by rw [hW]; exact bel4 HD16.out HE16.out
  have BK16 : Aside0 (w120.heap[g16]? = some (.cells #[.int .i64 d0, .int .i64 d1, .int .i64 d2, .int .i64 d3] 28 (0, 0))) := ⟨by rw [hW]; exact put4 HY16.out⟩
  replace BK3 := Aside0.mk (blk_below BK3.out hb)
  replace BK4 := Aside0.mk (blk_below BK4.out hb)
  replace BK8 := Aside0.mk (blk_below BK8.out hb)
  replace BK10 := Aside0.mk (blk_below BK10.out hb)
  replace BK12 := Aside0.mk (blk_below BK12.out hb)
  replace BK14 := Aside0.mk (blk_below BK14.out hb)
  replace HC0 := Aside0.mk (Kd.C_below HC0.out hb)
  replace HC1 := Aside0.mk (Kd.C_below HC1.out hb)
  replace HTA := Aside0.mk (TabA.below HTA.out hb)
  replace HB := Aside0.mk (below_step HB.out hb)
  clear hb hW HG16 HX16 HD16 HY16 HE16
  have hz3_0 : w120.cell? ⟨g3, 0, none⟩ = some (.slice A1 m.length c1) := (blk_cell BK3.out 0).trans rfl
  have hz4_0 : w120.cell? ⟨g4, 0, none⟩ = some (.int .i64 s0) := (blk_cell BK4.out 0).trans rfl
  have hz4_1 : w120.cell? ⟨g4, 1, none⟩ = some (.int .i64 s1) := (blk_cell BK4.out 1).trans rfl
  have hz4_2 : w120.cell? ⟨g4, 2, none⟩ = some (.int .i64 s2) := (blk_cell BK4.out 2).trans rfl
  have hz4_3 : w120.cell? ⟨g4, 3, none⟩ = some (.int .i64 s3) := (blk_cell BK4.out 3).trans rfl
  go_wp2_with (go_at_fn 49; fail)
  refine (spec_ClipWindow.calls k _ _ m s0 s1 s2 s3 d0 d1 d2 d3 four _ HC1.out HL1.out E8.out).mono ?_
  rintro e w121 ⟨rfl, hb⟩
  replace BK3 := Aside0.mk (blk_below BK3.out hb)
  replace BK4 := Aside0.mk (blk_below BK4.out hb)
  replace BK8 := Aside0.mk (blk_below BK8.out hb)
  replace BK10 := Aside0.mk (blk_below BK10.out hb)
  replace BK12 := Aside0.mk (blk_below BK12.out hb)
  replace BK14 := Aside0.mk (blk_below BK14.out hb)
  replace BK16 := Aside0.mk (blk_below BK16.out hb)
  replace HC0 := Aside0.mk (Kd.C_below HC0.out hb)
  replace HC1 := Aside0.mk (Kd.C_below HC1.out hb)
  replace HTA := Aside0.mk (TabA.below HTA.out hb)
  replace HB := Aside0.mk (below_step HB.out hb)
  clear hb
  clear hz3_0 hz4_0 hz4_1 hz4_2 hz4_3
  go_upto_region 14 with (first | ((with_reducible refine gate_dst (N := 18) rfl ?_); refine box_event ?hg (N := 18) ?hd (cs := #[.int .i64 0, .int .i64 0, .int .i64 0, .int .i64 0]) (t := 28) ?hr ?_; (case hd => rfl); (case hg => rfl); (case hr => first | (go_simp; done) | (go_simp; rfl)); intro g18 hg w122 hx hb; have HG18 := Aside0.mk hg; have HX18 := Aside0.mk hx; have HD18 := Aside0.mk hb; clear hg hx hb; have HY18 := Aside0.mk HX18.out; have hz18_0 : w122.cell? ⟨g18, 0, none⟩ = some (.int .i64 0) := (blk_cell HY18.out 0).trans rfl; have hf18_0 := blk_frozen HY18.out 0; have hz18_1 : w122.cell? ⟨g18, 1, none⟩ = some (.int .i64 0) := (blk_cell HY18.out 1).trans rfl; have hf18_1 := blk_frozen HY18.out 1; have hz18_2 : w122.cell? ⟨g18, 2, none⟩ = some (.int .i64 0) := (blk_cell HY18.out 2).trans rfl; have hf18_2 := blk_frozen HY18.out 2; have hz18_3 : w122.cell? ⟨g18, 3, none⟩ = some (.int .i64 0) := (blk_cell HY18.out 3).trans rfl; have hf18_3 := blk_frozen HY18.out 3))
  refine hideW ?_
  intro w123 hW
  clear hz18_0 hf18_0 hz18_1 hf18_1 hz18_2 hf18_2 hz18_3 hf18_3
  have HE18 := Aside0.mk (Nat.le_of_eq HG18.out.symm)
  have hb : Below w121.heap.size w121 w123 := by rw [hW]; exact bel4 HD18.out HE18.out
  have BK18 : Aside0 (w123.heap[g18]? = some (.cells #[.int .i64 d0, .int .i64 d1, .int .i64 d2, .int .i64 d3] 28 (0, 0))) := ⟨by rw [hW]; exact put4 HY18.out⟩
  replace BK3 := Aside0.mk (blk_below BK3.out hb)
  replace BK4 := Aside0.mk (blk_below BK4.out hb)
  replace BK8 := Aside0.mk (blk_below BK8.out hb)
  replace BK10 := Aside0.mk (blk_below BK10.out hb)
  replace BK12 := Aside0.mk (blk_below BK12.out hb)
  replace BK14 := Aside0.mk (blk_below BK14.out hb)
  replace BK16 := Aside0.mk (blk_below BK16.out hb)
  replace HC0 := Aside0.mk (Kd.C_below HC0.out hb)
  replace HC1 := Aside0.mk (Kd.C_below HC1.out hb)
  replace HTA := Aside0.mk (TabA.below HTA.out hb)
  replace HB := Aside0.mk (below_step HB.out hb)
  clear hb hW HG18 HX18 HD18 HY18 HE18
  go_upto_region 14 with (fail)
  go_cut [142] from 118 to 142 (fun v142 wc2 => v142 = .bool false ∧ Aside0 (Below w123.heap.size w123 wc2))
  case first =>
   have hz16_0 : w123.cell? ⟨g16, 0, none⟩ = some (.int .i64 d0) := (blk_cell BK16.out 0).trans rfl
   have hz16_1 : w123.cell? ⟨g16, 1, none⟩ = some (.int .i64 d1) := (blk_cell BK16.out 1).trans rfl
   have hz16_2 : w123.cell? ⟨g16, 2, none⟩ = some (.int .i64 d2) := (blk_cell BK16.out 2).trans rfl
   have hz16_3 : w123.cell? ⟨g16, 3, none⟩ = some (.int .i64 d3) := (blk_cell BK16.out 3).trans rfl
   have hz18_0 : w123.cell? ⟨g18, 0, none⟩ = some (.int .i64 d0) := (blk_cell BK18.out 0).trans rfl
   have hz18_1 : w123.cell? ⟨g18, 1, none⟩ = some (.int .i64 d1) := (blk_cell BK18.out 1).trans rfl
   have hz18_2 : w123.cell? ⟨g18, 2, none⟩ = some (.int .i64 d2) := (blk_cell BK18.out 2).trans rfl
   have hz18_3 : w123.cell? ⟨g18, 3, none⟩ = some (.int .i64 d3) := (blk_cell BK18.out 3).trans rfl
   have hz4_0 : w123.cell? ⟨g4, 0, none⟩ = some (.int .i64 s0) := (blk_cell BK4.out 0).trans rfl
   have hz4_1 : w123.cell? ⟨g4, 1, none⟩ = some (.int .i64 s1) := (blk_cell BK4.out 1).trans rfl
   have hz4_2 : w123.cell? ⟨g4, 2, none⟩ = some (.int .i64 s2) := (blk_cell BK4.out 2).trans rfl
   have hz4_3 : w123.cell? ⟨g4, 3, none⟩ = some (.int .i64 s3) := (blk_cell BK4.out 3).trans rfl
   have h1 := E23.out
   clear E23 E24 E7 E8 E12 E13
   cases four
   ·go_wp2
    go_meet
    case rel => exact ⟨rfl, ⟨Below.refl _ _⟩⟩
   ·obtain ⟨h2, h3⟩ := h1 rfl
    have b_1 : (d2 != s2) = false := by rw [h2]; simp
    have b_2 : (d3 != s2) = false := by rw [h3]; simp
    clear h1 h2 h3
    go_wp2
    go_meet
    case rel => exact ⟨rfl, ⟨Below.refl _ _⟩⟩
  case rest =>
   obtain ⟨rfl, hS⟩ := hcut
   have hb := hS.out
   clear hS
   replace BK3 := Aside0.mk (blk_below BK3.out hb)
   replace BK4 := Aside0.mk (blk_below BK4.out hb)
   replace BK8 := Aside0.mk (blk_below BK8.out hb)
   replace BK10 := Aside0.mk (blk_below BK10.out hb)
   replace BK12 := Aside0.mk (blk_below BK12.out hb)
   replace BK14 := Aside0.mk (blk_below BK14.out hb)
   replace BK16 := Aside0.mk (blk_below BK16.out hb)
   replace BK18 := Aside0.mk (blk_below BK18.out hb)
   replace HC0 := Aside0.mk (Kd.C_below HC0.out hb)
   replace HC1 := Aside0.mk (Kd.C_below HC1.out hb)
   replace HTA := Aside0.mk (TabA.below HTA.out hb)
   replace HB := Aside0.mk (below_step HB.out hb)
   clear hb
   have hz3_0 : wc.cell? ⟨g3, 0, none⟩ = some (.slice A1 m.length c1) := (blk_cell BK3.out 0).trans rfl
   have hz4_0 : wc.cell? ⟨g4, 0, none⟩ = some (.int .i64 s0) := (blk_cell BK4.out 0).trans rfl
   have hz4_1 : wc.cell? ⟨g4, 1, none⟩ = some (.int .i64 s1) := (blk_cell BK4.out 1).trans rfl
   have hz4_2 : wc.cell? ⟨g4, 2, none⟩ = some (.int .i64 s2) := (blk_cell BK4.out 2).trans rfl
   have hz4_3 : wc.cell? ⟨g4, 3, none⟩ = some (.int .i64 s3) := (blk_cell BK4.out 3).trans rfl
   go_wp2_with (go_at_fn 50; fail)
   refine (impl_IsWindow.calls k _ _ m s0 s1 s2 s3 is five _ HC1.out HL1.out E9.out).mono ?_
   rintro e w124 ⟨rfl, hb⟩
   replace BK3 := Aside0.mk (blk_below BK3.out hb)
   replace BK4 := Aside0.mk (blk_below BK4.out hb)
   replace BK8 := Aside0.mk (blk_below BK8.out hb)
   replace BK10 := Aside0.mk (blk_below BK10.out hb)
   replace BK12 := Aside0.mk (blk_below BK12.out hb)
   replace BK14 := Aside0.mk (blk_below BK14.out hb)
   replace BK16 := Aside0.mk (blk_below BK16.out hb)
   replace BK18 := Aside0.mk (blk_below BK18.out hb)
   replace HC0 := Aside0.mk (Kd.C_below HC0.out hb)
   replace HC1 := Aside0.mk (Kd.C_below HC1.out hb)
   replace HTA := Aside0.mk (TabA.below HTA.out hb)
   replace HB := Aside0.mk (below_step HB.out hb)
   clear hb
   clear hz3_0 hz4_0 hz4_1 hz4_2 hz4_3
   have hz3_0 : w124.cell? ⟨g3, 0, none⟩ = some (.slice A1 m.length c1) := (blk_cell BK3.out 0).trans rfl
   have hz4_0 : w124.cell? ⟨g4, 0, none⟩ = some (.int .i64 s0) := (blk_cell BK4.out 0).trans rfl
   have hz4_1 : w124.cell? ⟨g4, 1, none⟩ = some (.int .i64 s1) := (blk_cell BK4.out 1).trans rfl
   have hz4_2 : w124.cell? ⟨g4, 2, none⟩ = some (.int .i64 s2) := (blk_cell BK4.out 2).trans rfl
   have hz4_3 : w124.cell? ⟨g4, 3, none⟩ = some (.int .i64 s3) := (blk_cell BK4.out 3).trans rfl
   go_wp2_with (go_at_fn 51; fail)
   refine (spec_IsWindow.calls k _ _ m s0 s1 s2 s3 is five _ HC1.out HL1.out E10.out).mono ?_
   rintro e w125 ⟨rfl, hb⟩
   replace BK3 := Aside0.mk (blk_below BK3.out hb)
   replace BK4 := Aside0.mk (blk_below BK4.out hb)
   replace BK8 := Aside0.mk (blk_below BK8.out hb)
   replace BK10 := Aside0.mk (blk_below BK10.out hb)
   replace BK12 := Aside0.mk (blk_below BK12.out hb)
   replace BK14 := Aside0.mk (blk_below BK14.out hb)
   replace BK16 := Aside0.mk (blk_below BK16.out hb)
   replace BK18 := Aside0.mk (blk_below BK18.out hb)
   replace HC0 := Aside0.mk (Kd.C_below HC0.out hb)
   replace HC1 := Aside0.mk (Kd.C_below HC1.out hb)
   replace HTA := Aside0.mk (TabA.below HTA.out hb)
   replace HB := Aside0.mk (below_step HB.out hb)
   clear hb
   clear hz3_0 hz4_0 hz4_1 hz4_2 hz4_3
   go_upto_region 18 with (fail)
   go_cut [176] from 155 to 176 (fun v176 wc3 => v176 = .bool false ∧ Aside0 (Below w125.heap.size w125 wc3))
   case first =>
    have hz3_0 : w125.cell? ⟨g3, 0, none⟩ = some (.slice A1 m.length c1) := (blk_cell BK3.out 0).trans rfl
    have h1 := E24.out
    clear E24 E7 E8 E12 E13 E23
    subst h1
    cases five <;> cases is
    all_goals
     go_wp2_with (go_at_call 52; refine (impl_IsMemory.calls k _ _ m _ _ HC1.out HL1.out E11.out).mono ?_; rintro e w126 ⟨rfl, hb⟩; have HS := Aside0.mk hb; replace BK3 := Aside0.mk (blk_below BK3.out hb); replace BK4 := Aside0.mk (blk_below BK4.out hb); replace BK8 := Aside0.mk (blk_below BK8.out hb); replace BK10 := Aside0.mk (blk_below BK10.out hb); replace BK12 := Aside0.mk (blk_below BK12.out hb); replace BK14 := Aside0.mk (blk_below BK14.out hb); replace BK16 := Aside0.mk (blk_below BK16.out hb); replace BK18 := Aside0.mk (blk_below BK18.out hb); replace HC0 := Aside0.mk (Kd.C_below HC0.out hb); replace HC1 := Aside0.mk (Kd.C_below HC1.out hb); replace HTA := Aside0.mk (TabA.below HTA.out hb); replace HB := Aside0.mk (below_step HB.out hb); clear hb)
     go_meet
     case rel => exact ⟨rfl, ⟨HS.out⟩⟩
   case rest =>
    obtain ⟨rfl, hS⟩ := hcut
    have hb := hS.out
    clear hS
    replace BK3 := Aside0.mk (blk_below BK3.out hb)
    replace BK4 := Aside0.mk (blk_below BK4.out hb)
    replace BK8 := Aside0.mk (blk_below BK8.out hb)
    replace BK10 := Aside0.mk (blk_below BK10.out hb)
    replace BK12 := Aside0.mk (blk_below BK12.out hb)
    replace BK14 := Aside0.mk (blk_below BK14.out hb)
    replace BK16 := Aside0.mk (blk_below BK16.out hb)
    replace BK18 := Aside0.mk (blk_below BK18.out hb)
    replace HC0 := Aside0.mk (Kd.C_below HC0.out hb)
    replace HC1 := Aside0.mk (Kd.C_below HC1.out hb)
    replace HTA := Aside0.mk (TabA.below HTA.out hb)
    replace HB := Aside0.mk (below_step HB.out hb)
    clear hb
    have hz3_0 : wc.cell? ⟨g3, 0, none⟩ = some (.slice A1 m.length c1) := (blk_cell BK3.out 0).trans rfl
    have hz4_0 : wc.cell? ⟨g4, 0, none⟩ = some (.int .i64 s0) := (blk_cell BK4.out 0).trans rfl
    have hz4_1 : wc.cell? ⟨g4, 1, none⟩ = some (.int .i64 s1) := (blk_cell BK4.out 1).trans rfl
    have hz4_2 : wc.cell? ⟨g4, 2, none⟩ = some (.int .i64 s2) := (blk_cell BK4.out 2).trans rfl
    have hz4_3 : wc.cell? ⟨g4, 3, none⟩ = some (.int .i64 s3) := (blk_cell BK4.out 3).trans rfl
    go_wp2_with (go_at_fn 53; fail)
    refine (impl_WindowBytes.calls k _ _ m s0 s1 s2 s3 lst four _ HC1.out HL1.out E12.out).mono ?_
    rintro e w127 ⟨v5, rfl, ho5, hb⟩
    replace BK3 := Aside0.mk (blk_below BK3.out hb)
    replace BK4 := Aside0.mk (blk_below BK4.out hb)
    replace BK8 := Aside0.mk (blk_below BK8.out hb)
    replace BK10 := Aside0.mk (blk_below BK10.out hb)
    replace BK12 := Aside0.mk (blk_below BK12.out hb)
    replace BK14 := Aside0.mk (blk_below BK14.out hb)
    replace BK16 := Aside0.mk (blk_below BK16.out hb)
    replace BK18 := Aside0.mk (blk_below BK18.out hb)
    replace HC0 := Aside0.mk (Kd.C_below HC0.out hb)
    replace HC1 := Aside0.mk (Kd.C_below HC1.out hb)
    replace HTA := Aside0.mk (TabA.below HTA.out hb)
    replace HB := Aside0.mk (below_step HB.out hb)
    clear hb
    obtain ⟨A5, c5, eo⟩ := Kd.R_slice ho5
    subst eo
    have HC5 := Aside0.mk (Kd.R_reads' ho5).2.2
    have HL5 := Aside0.mk (Kd.R_reads' ho5).2.1
    clear ho5
    clear hz3_0 hz4_0 hz4_1 hz4_2 hz4_3
    have hz3_0 : w127.cell? ⟨g3, 0, none⟩ = some (.slice A1 m.length c1) := (blk_cell BK3.out 0).trans rfl
    have hz4_0 : w127.cell? ⟨g4, 0, none⟩ = some (.int .i64 s0) := (blk_cell BK4.out 0).trans rfl
    have hz4_1 : w127.cell? ⟨g4, 1, none⟩ = some (.int .i64 s1) := (blk_cell BK4.out 1).trans rfl
    have hz4_2 : w127.cell? ⟨g4, 2, none⟩ = some (.int .i64 s2) := (blk_cell BK4.out 2).trans rfl
    have hz4_3 : w127.cell? ⟨g4, 3, none⟩ = some (.int .i64 s3) := (blk_cell BK4.out 3).trans rfl
    go_wp2_with (go_at_fn 54; fail)
    refine (spec_WindowBytes.calls k _ _ m s0 s1 s2 s3 lst four _ HC1.out HL1.out E13.out).mono ?_
    rintro e w128 ⟨v6, rfl, ho6, hb⟩
    replace BK3 := Aside0.mk (blk_below BK3.out hb)
    replace BK4 := Aside0.mk (blk_below BK4.out hb)
    replace BK8 := Aside0.mk (blk_below BK8.out hb)
    replace BK10 := Aside0.mk (blk_below BK10.out hb)
    replace BK12 := Aside0.mk (blk_below BK12.out hb)
    replace BK14 := Aside0.mk (blk_below BK14.out hb)
    replace BK16 := Aside0.mk (blk_below BK16.out hb)
    replace BK18 := Aside0.mk (blk_below BK18.out hb)
    replace HC0 := Aside0.mk (Kd.C_below HC0.out hb)
    replace HC1 := Aside0.mk (Kd.C_below HC1.out hb)
    replace HC5 := Aside0.mk (Kd.C_below HC5.out hb)
    replace HTA := Aside0.mk (TabA.below HTA.out hb)
    replace HB := Aside0.mk (below_step HB.out hb)
    clear hb
    obtain ⟨A6, c6, eo⟩ := Kd.R_slice ho6
    subst eo
    have HC6 := Aside0.mk (Kd.R_reads' ho6).2.2
    have HL6 := Aside0.mk (Kd.R_reads' ho6).2.1
    clear ho6
    clear hz3_0 hz4_0 hz4_1 hz4_2 hz4_3
    go_wp2_with (go_at_call 55; refine (laws_rBytes.calls _ _ lst _ _ lst true _ HC5.out HL5.out HC6.out HL6.out E14.out).mono ?_; rintro e w129 ⟨rfl, hd⟩; have hb := hd.below; clear hd; replace BK3 := Aside0.mk (blk_below BK3.out hb); replace BK4 := Aside0.mk (blk_below BK4.out hb); replace BK8 := Aside0.mk (blk_below BK8.out hb); replace BK10 := Aside0.mk (blk_below BK10.out hb); replace BK12 := Aside0.mk (blk_below BK12.out hb); replace BK14 := Aside0.mk (blk_below BK14.out hb); replace BK16 := Aside0.mk (blk_below BK16.out hb); replace BK18 := Aside0.mk (blk_below BK18.out hb); replace HC0 := Aside0.mk (Kd.C_below HC0.out hb); replace HC1 := Aside0.mk (Kd.C_below HC1.out hb); replace HC5 := Aside0.mk (Kd.C_below HC5.out hb); replace HC6 := Aside0.mk (Kd.C_below HC6.out hb); replace HTA := Aside0.mk (TabA.below HTA.out hb); replace HB := Aside0.mk (below_step HB.out hb); clear hb)
    go_wp2_with (go_at_fn 56; fail)
    refine (spec_DrawWholeWindow.calls k _ _ l0 g a _ HC0.out HL0.out E15.out).mono ?_
    rintro e w130 ⟨v7, rfl, ho7, hb⟩
    replace BK3 := Aside0.mk (blk_below BK3.out hb)
    replace BK4 := Aside0.mk (blk_below BK4.out hb)
    replace BK8 := Aside0.mk (blk_below BK8.out hb)
    replace BK10 := Aside0.mk (blk_below BK10.out hb)
    replace BK12 := Aside0.mk (blk_below BK12.out hb)
    replace BK14 := Aside0.mk (blk_below BK14.out hb)
    replace BK16 := Aside0.mk (blk_below BK16.out hb)
    replace BK18 := Aside0.mk (blk_below BK18.out hb)
    replace HC0 := Aside0.mk (Kd.C_below HC0.out hb)
    replace HC1 := Aside0.mk (Kd.C_below HC1.out hb)
    replace HC5 := Aside0.mk (Kd.C_below HC5.out hb)
    replace HC6 := Aside0.mk (Kd.C_below HC6.out hb)
    replace HTA := Aside0.mk (TabA.below HTA.out hb)
    replace HB := Aside0.mk (below_step HB.out hb)
    clear hb
    obtain ⟨A7, c7, eo⟩ := Kd.S_slice ho7
    subst eo
    have HC7 := Aside0.mk (Kd.S_reads' ho7).2.2
    have HL7 := Aside0.mk (Kd.S_reads' ho7).2.1
    clear ho7
    go_upto_region 25 with (first | ((with_reducible refine gate_dst (N := 28) rfl ?_); refine box_event ?hg (N := 28) ?hd (cs := #[.slice none 0 0]) (t := 26) ?hr ?_; (case hd => rfl); (case hg => rfl); (case hr => first | (go_simp; done) | (go_simp; rfl)); intro g28 hg w131 hx hb; have HG28 := Aside0.mk hg; have HX28 := Aside0.mk hx; have HD28 := Aside0.mk hb; clear hg hx hb; have HY28 := Aside0.mk HX28.out; have hz28_0 : w131.cell? ⟨g28, 0, none⟩ = some (.slice none 0 0) := (blk_cell HY28.out 0).trans rfl; have hf28_0 := blk_frozen HY28.out 0))
    refine hideW ?_
    intro w132 hW
    clear hz28_0 hf28_0
    have HE28 := Aside0.mk (Nat.le_of_eq HG28.out.symm)
    have hb : Below w130.heap.size w130 w132 := by rw [hW]; exact bel1 HD28.out HE28.out
    have BK28 : Aside0 (w132.heap[g28]? = some (.cells #[.slice A7 g.length c7] 26 (0, 0))) := ⟨by rw [hW]; exact put1 HY28.out⟩
    replace BK3 := Aside0.mk (blk_below BK3.out hb)
    replace BK4 := Aside0.mk (blk_below BK4.out hb)
    replace BK8 := Aside0.mk (blk_below BK8.out hb)
    replace BK10 := Aside0.mk (blk_below BK10.out hb)
    replace BK12 := Aside0.mk (blk_below BK12.out hb)
    replace BK14 := Aside0.mk (blk_below BK14.out hb)
    replace BK16 := Aside0.mk (blk_below BK16.out hb)
    replace BK18 := Aside0.mk (blk_below BK18.out hb)
    replace HC0 := Aside0.mk (Kd.C_below HC0.out hb)
    replace HC1 := Aside0.mk (Kd.C_below HC1.out hb)
    replace HC5 := Aside0.mk (Kd.C_below HC5.out hb)
    replace HC6 := Aside0.mk (Kd.C_below HC6.out hb)
    replace HC7 := Aside0.mk (Kd.C_below HC7.out hb)
    replace HTA := Aside0.mk (TabA.below HTA.out hb)
    replace HB := Aside0.mk (below_step HB.out hb)
    clear hb hW HG28 HX28 HD28 HY28 HE28
    have hz28_0 : w132.cell? ⟨g28, 0, none⟩ = some (.slice A7 g.length c7) := (blk_cell BK28.out 0).trans rfl
    go_wp2_with (go_at_fn 57; fail)
    refine (impl_WholeWindow.calls k _ _ g a x0 x1 x2 x3 seven _ HC7.out HL7.out E16.out).mono ?_
    rintro e w133 ⟨rfl, hb⟩
    replace BK3 := Aside0.mk (blk_below BK3.out hb)
    replace BK4 := Aside0.mk (blk_below BK4.out hb)
    replace BK8 := Aside0.mk (blk_below BK8.out hb)
    replace BK10 := Aside0.mk (blk_below BK10.out hb)
    replace BK12 := Aside0.mk (blk_below BK12.out hb)
    replace BK14 := Aside0.mk (blk_below BK14.out hb)
    replace BK16 := Aside0.mk (blk_below BK16.out hb)
    replace BK18 := Aside0.mk (blk_below BK18.out hb)
    replace BK28 := Aside0.mk (blk_below BK28.out hb)
    replace HC0 := Aside0.mk (Kd.C_below HC0.out hb)
    replace HC1 := Aside0.mk (Kd.C_below HC1.out hb)
    replace HC5 := Aside0.mk (Kd.C_below HC5.out hb)
    replace HC6 := Aside0.mk (Kd.C_below HC6.out hb)
    replace HC7 := Aside0.mk (Kd.C_below HC7.out hb)
    replace HTA := Aside0.mk (TabA.below HTA.out hb)
    replace HB := Aside0.mk (below_step HB.out hb)
    clear hb
    clear hz28_0
    go_upto_region 26 with (first | ((with_reducible refine gate_dst (N := 30) rfl ?_); refine box_event ?hg (N := 30) ?hd (cs := #[.int .i64 0, .int .i64 0, .int .i64 0, .int .i64 0]) (t := 28) ?hr ?_; (case hd => rfl); (case hg => rfl); (case hr => first | (go_simp; done) | (go_simp; rfl)); intro g30 hg w134 hx hb; have HG30 := Aside0.mk hg; have HX30 := Aside0.mk hx; have HD30 := Aside0.mk hb; clear hg hx hb; have HY30 := Aside0.mk HX30.out; have hz30_0 : w134.cell? ⟨g30, 0, none⟩ = some (.int .i64 0) := (blk_cell HY30.out 0).trans rfl; have hf30_0 := blk_frozen HY30.out 0; have hz30_1 : w134.cell? ⟨g30, 1, none⟩ = some (.int .i64 0) := (blk_cell HY30.out 1).trans rfl; have hf30_1 := blk_frozen HY30.out 1; have hz30_2 : w134.cell? ⟨g30, 2, none⟩ = some (.int .i64 0) := (blk_cell HY30.out 2).trans rfl; have hf30_2 := blk_frozen HY30.out 2; have hz30_3 : w134.cell? ⟨g30, 3, none⟩ = some (.int .i64 0) := (blk_cell HY30.out 3).trans rfl; have hf30_3 := blk_frozen HY30.out 3))
    refine hideW ?_
    intro w135 hW
    clear hz30_0 hf30_0 hz30_1 hf30_1 hz30_2 hf30_2 hz30_3 hf30_3
    have HE30 := Aside0.mk (Nat.le_of_eq HG30.out.symm)
    have hb : Below w133.heap.size w133 w135 := by rw [hW]; exact bel4 HD30.out HE30.out
    have BK30 : Aside0 (w135.heap[g30]? = some (.cells #[.int .i64 x0, .int .i64 x1, .int .i64 x2, .int .i64 x3] 28 (0, 0))) := ⟨by rw [hW]; exact put4 HY30.out⟩
    replace BK3 := Aside0.mk (blk_below BK3.out hb)
    replace BK4 := Aside0.mk (blk_below BK4.out hb)
    replace BK8 := Aside0.mk (blk_below BK8.out hb)
    replace BK10 := Aside0.mk (blk_below BK10.out hb)
    replace BK12 := Aside0.mk (blk_below BK12.out hb)
    replace BK14 := Aside0.mk (blk_below BK14.out hb)
    replace BK16 := Aside0.mk (blk_below BK16.out hb)
    replace BK18 := Aside0.mk (blk_below BK18.out hb)
    replace BK28 := Aside0.mk (blk_below BK28.out hb)
    replace HC0 := Aside0.mk (Kd.C_below HC0.out hb)
    replace HC1 := Aside0.mk (Kd.C_below HC1.out hb)
    replace HC5 := Aside0.mk (Kd.C_below HC5.out hb)
    replace HC6 := Aside0.mk (Kd.C_below HC6.out hb)
    replace HC7 := Aside0.mk (Kd.C_below HC7.out hb)
    replace HTA := Aside0.mk (TabA.below HTA.out hb)
    replace HB := Aside0.mk (below_step HB.out hb)
    clear hb hW HG30 HX30 HD30 HY30 HE30
    have hz28_0 : w135.cell? ⟨g28, 0, none⟩ = some (.slice A7 g.length c7) := (blk_cell BK28.out 0).trans rfl
    go_wp2_with (go_at_fn 58; fail)
    refine (spec_WholeWindow.calls k _ _ g a x0 x1 x2 x3 seven _ HC7.out HL7.out E17.out).mono ?_
    rintro e w136 ⟨rfl, hb⟩
    replace BK3 := Aside0.mk (blk_below BK3.out hb)
    replace BK4 := Aside0.mk (blk_below BK4.out hb)
    replace BK8 := Aside0.mk (blk_below BK8.out hb)
    replace BK10 := Aside0.mk (blk_below BK10.out hb)
    replace BK12 := Aside0.mk (blk_below BK12.out hb)
    replace BK14 := Aside0.mk (blk_below BK14.out hb)
    replace BK16 := Aside0.mk (blk_below BK16.out hb)
    replace BK18 := Aside0.mk (blk_below BK18.out hb)
    replace BK28 := Aside0.mk (blk_below BK28.out hb)
    replace BK30 := Aside0.mk (blk_below BK30.out hb)
    replace HC0 := Aside0.mk (Kd.C_below HC0.out hb)
    replace HC1 := Aside0.mk (Kd.C_below HC1.out hb)
    replace HC5 := Aside0.mk (Kd.C_below HC5.out hb)
    replace HC6 := Aside0.mk (Kd.C_below HC6.out hb)
    replace HC7 := Aside0.mk (Kd.C_below HC7.out hb)
    replace HTA := Aside0.mk (TabA.below HTA.out hb)
    replace HB := Aside0.mk (below_step HB.out hb)
    clear hb
    clear hz28_0
    go_upto_region 27 with (first | ((with_reducible refine gate_dst (N := 32) rfl ?_); refine box_event ?hg (N := 32) ?hd (cs := #[.int .i64 0, .int .i64 0, .int .i64 0, .int .i64 0]) (t := 28) ?hr ?_; (case hd => rfl); (case hg => rfl); (case hr => first | (go_simp; done) | (go_simp; rfl)); intro g32 hg w137 hx hb; have HG32 := Aside0.mk hg; have HX32 := Aside0.mk hx; have HD32 := Aside0.mk hb; clear hg hx hb; have HY32 := Aside0.mk HX32.out; have hz32_0 : w137.cell? ⟨g32, 0, none⟩ = some (.int .i64 0) := (blk_cell HY32.out 0).trans rfl; have hf32_0 := blk_frozen HY32.out 0; have hz32_1 : w137.cell? ⟨g32, 1, none⟩ = some (.int .i64 0) := (blk_cell HY32.out 1).trans rfl; have hf32_1 := blk_frozen HY32.out 1; have hz32_2 : w137.cell? ⟨g32, 2, none⟩ = some (.int .i64 0) := (blk_cell HY32.out 2).trans rfl; have hf32_2 := blk_frozen HY32.out 2; have hz32_3 : w137.cell? ⟨g32, 3, none⟩ = some (.int .i64 0) := (blk_cell HY32.out 3).trans rfl; have hf32_3 := blk_frozen HY32.out 3))
    refine hideW ?_
    intro w138 hW
    clear hz32_0 hf32_0 hz32_1 hf32_1 hz32_2 hf32_2 hz32_3 hf32_3
    have HE32 := Aside0.mk (Nat.le_of_eq HG32.out.symm)
    have hb : Below w136.heap.size w136 w138 := by rw [hW]; exact bel4 HD32.out HE32.out
    have BK32 : Aside0 (w138.heap[g32]? = some (.cells #[.int .i64 x0, .int .i64 x1, .int .i64 x2, .int .i64 x3] 28 (0, 0))) := ⟨by rw [hW]; exact put4 HY32.out⟩
    replace BK3 := Aside0.mk (blk_below BK3.out hb)
    replace BK4 := Aside0.mk (blk_below BK4.out hb)
    replace BK8 := Aside0.mk (blk_below BK8.out hb)
    replace BK10 := Aside0.mk (blk_below BK10.out hb)
    replace BK12 := Aside0.mk (blk_below BK12.out hb)
    replace BK14 := Aside0.mk (blk_below BK14.out hb)
    replace BK16 := Aside0.mk (blk_below BK16.out hb)
    replace BK18 := Aside0.mk (blk_below BK18.out hb)
    replace BK28 := Aside0.mk (blk_below BK28.out hb)
    replace BK30 := Aside0.mk (blk_below BK30.out hb)
    replace HC0 := Aside0.mk (Kd.C_below HC0.out hb)
    replace HC1 := Aside0.mk (Kd.C_below HC1.out hb)
    replace HC5 := Aside0.mk (Kd.C_below HC5.out hb)
    replace HC6 := Aside0.mk (Kd.C_below HC6.out hb)
    replace HC7 := Aside0.mk (Kd.C_below HC7.out hb)
    replace HTA := Aside0.mk (TabA.below HTA.out hb)
    replace HB := Aside0.mk (below_step HB.out hb)
    clear hb hW HG32 HX32 HD32 HY32 HE32
    have hz30_0 : w138.cell? ⟨g30, 0, none⟩ = some (.int .i64 x0) := (blk_cell BK30.out 0).trans rfl
    have hz30_1 : w138.cell? ⟨g30, 1, none⟩ = some (.int .i64 x1) := (blk_cell BK30.out 1).trans rfl
    have hz30_2 : w138.cell? ⟨g30, 2, none⟩ = some (.int .i64 x2) := (blk_cell BK30.out 2).trans rfl
    have hz30_3 : w138.cell? ⟨g30, 3, none⟩ = some (.int .i64 x3) := (blk_cell BK30.out 3).trans rfl
    have hz32_0 : w138.cell? ⟨g32, 0, none⟩ = some (.int .i64 x0) := (blk_cell BK32.out 0).trans rfl
    have hz32_1 : w138.cell? ⟨g32, 1, none⟩ = some (.int .i64 x1) := (blk_cell BK32.out 1).trans rfl
    have hz32_2 : w138.cell? ⟨g32, 2, none⟩ = some (.int .i64 x2) := (blk_cell BK32.out 2).trans rfl
    have hz32_3 : w138.cell? ⟨g32, 3, none⟩ = some (.int .i64 x3) := (blk_cell BK32.out 3).trans rfl
    go_upto_region 29 with (fail)
    clear hz30_0 hz30_1 hz30_2 hz30_3 hz32_0 hz32_1 hz32_2 hz32_3
    go_upto_region 29 with (fail)
    go_cut [232] from 228 to 232 (fun v232 wc4 => v232 = .bool false ∧ Aside0 (Below w138.heap.size w138 wc4))
    case first =>
     try go_wp2
     have BKd := Aside0.mk (blk_drew BK4.out)
     have HTd := Aside0.mk (TabA.below HTA.out (below_drew1 (Below.refl w138.heap.size w138)))
     have HS := Aside0.mk (below_drew1 (Below.refl w138.heap.size w138))
     refine start_ (n := 5) (S := fun w' => w'.cell? ⟨g4, 0, none⟩ = some (.int .i64 s0) ∧ w'.cell? ⟨g4, 1, none⟩ = some (.int .i64 s1) ∧ w'.cell? ⟨g4, 2, none⟩ = some (.int .i64 s2) ∧ w'.cell? ⟨g4, 3, none⟩ = some (.int .i64 s3)) (ds := []) #[false, false, false, false, false] (by kernel_rfl) rfl rfl ⟨(blk_cell BKd.out 0).trans rfl, (blk_cell BKd.out 1).trans rfl, (blk_cell BKd.out 2).trans rfl, (blk_cell BKd.out 3).trans rfl⟩ (fun hHeld => ?_)
     generalize w138.drew = wd at BKd HTd HS hHeld ⊢
     refine take_ (i := 0) (N := some 228) (v := ?_) (a' := ?_) #[true, false, false, false, false] rfl rfl (by kernel_rfl) (fun _ _ _ h => h) (Or.inl ⟨by rfl, ?_⟩) hHeld ?_ ?_
     rotate_left
     ·rintro w' ⟨s0, s1, s2, s3⟩
      go_simp
      with_reducible rfl
     rotate_left
     ·simp only [Act.put, List.setIfInBounds_toArray, List.set_cons_zero, List.set_cons_succ, i64_w, i32_w]
      rfl
     refine take_ (i := 2) (N := some 230) (v := ?_) (a' := ?_) #[true, false, true, false, false] rfl rfl (by kernel_rfl) (fun _ _ _ h => h) (Or.inl ⟨by rfl, ?_⟩) hHeld ?_ ?_
     rotate_left
     ·rintro w' ⟨s0, s1, s2, s3⟩
      go_simp
      with_reducible rfl
     rotate_left
     ·simp only [Act.put, List.setIfInBounds_toArray, List.set_cons_zero, List.set_cons_succ, i64_w, i32_w]
      rfl
     refine one_ (i := 1) (N := some 229) #[true, true, true, false, false] rfl rfl (by kernel_rfl) (by decide) (fun K hK => ?_)
     refine goes_ Tryd.func59 (by kernel_rfl) rfl #[.agg #[.int .i64 s0, .int .i64 s1, .int .i64 s2, .int .i64 s3]] (by rfl) rfl rfl (by (try simp only [List.map_toArray, List.map_cons, List.map_nil]); first | done | rfl) ?_
     with_reducible refine (impl_WindowText.calls k s0 s1 s2 s3 tx _ E18.out HTd).mono ?_
     rintro e wz ⟨rfl, hb⟩
     refine ⟨_, rfl, ?_⟩
     replace BKd := Aside0.mk (blk_below BKd.out hb)
     replace HS := Aside0.mk (below_step HS.out hb)
     clear hb
     refine hK.out _ _ ⟨(blk_cell BKd.out 0).trans rfl, (blk_cell BKd.out 1).trans rfl, (blk_cell BKd.out 2).trans rfl, (blk_cell BKd.out 3).trans rfl⟩ (fun hHeld => ?_)
     clear hK K
     refine norm_ (a' := ?_) ?_ ?_
     rotate_left
     ·show Act.put _ (some 229) _ = _
      simp only [Act.put, List.setIfInBounds_toArray, List.set_cons_zero, List.set_cons_succ, i64_w, i32_w]
      rfl
     refine one_ (i := 3) (N := some 231) #[true, true, true, true, false] rfl rfl (by kernel_rfl) (by decide) (fun K hK => ?_)
     refine goes_ Tryd.func60 (by kernel_rfl) rfl #[.agg #[.int .i64 s0, .int .i64 s1, .int .i64 s2, .int .i64 s3]] (by rfl) rfl rfl (by (try simp only [List.map_toArray, List.map_cons, List.map_nil]); first | done | rfl) ?_
     with_reducible refine (spec_WindowText.calls k s0 s1 s2 s3 tx _ E19.out).mono ?_
     rintro e wz ⟨rfl, hb⟩
     refine ⟨_, rfl, ?_⟩
     replace BKd := Aside0.mk (blk_below BKd.out hb)
     replace HS := Aside0.mk (below_step HS.out hb)
     clear hb
     refine hK.out _ _ ⟨(blk_cell BKd.out 0).trans rfl, (blk_cell BKd.out 1).trans rfl, (blk_cell BKd.out 2).trans rfl, (blk_cell BKd.out 3).trans rfl⟩ (fun hHeld => ?_)
     clear hK K
     refine norm_ (a' := ?_) ?_ ?_
     rotate_left
     ·show Act.put _ (some 231) _ = _
      simp only [Act.put, List.setIfInBounds_toArray, List.set_cons_zero, List.set_cons_succ, i64_w, i32_w]
      rfl
     refine pure_ (i := 4) (N := some 232) (v := ?_) (a' := ?_) #[true, true, true, true, true] rfl rfl (by kernel_rfl) (fun _ _ _ h => h) (Or.inl ⟨by rfl, ?_⟩) ?_ ?_
     rotate_left
     ·intro w'
      go_simp
      with_reducible rfl
     rotate_left
     ·simp only [Act.put, List.setIfInBounds_toArray, List.set_cons_zero, List.set_cons_succ, i64_w, i32_w]
      rfl
     refine done_ (by kernel_rfl) ?_
     try go_wp2
     go_meet
     case rel => exact ⟨rfl, ⟨HS.out⟩⟩
    case rest =>
     obtain ⟨rfl, hS⟩ := hcut
     have hb := hS.out
     clear hS
     replace BK3 := Aside0.mk (blk_below BK3.out hb)
     replace BK4 := Aside0.mk (blk_below BK4.out hb)
     replace BK8 := Aside0.mk (blk_below BK8.out hb)
     replace BK10 := Aside0.mk (blk_below BK10.out hb)
     replace BK12 := Aside0.mk (blk_below BK12.out hb)
     replace BK14 := Aside0.mk (blk_below BK14.out hb)
     replace BK16 := Aside0.mk (blk_below BK16.out hb)
     replace BK18 := Aside0.mk (blk_below BK18.out hb)
     replace BK28 := Aside0.mk (blk_below BK28.out hb)
     replace BK30 := Aside0.mk (blk_below BK30.out hb)
     replace BK32 := Aside0.mk (blk_below BK32.out hb)
     replace HC0 := Aside0.mk (Kd.C_below HC0.out hb)
     replace HC1 := Aside0.mk (Kd.C_below HC1.out hb)
     replace HC5 := Aside0.mk (Kd.C_below HC5.out hb)
     replace HC6 := Aside0.mk (Kd.C_below HC6.out hb)
     replace HC7 := Aside0.mk (Kd.C_below HC7.out hb)
     replace HTA := Aside0.mk (TabA.below HTA.out hb)
     replace HB := Aside0.mk (below_step HB.out hb)
     clear hb
     go_upto_if 233 with (fail)
     go_cut [34, 35] from 234 to 251 (fun v34 v35 wc5 => Aside0 (Below wc.heap.size wc wc5))
     case first =>
      cases seven
      ·go_wp2
       go_meet
       case rel => exact ⟨Below.refl _ _⟩
      ·obtain ⟨al, hE25, h0, h1, hE26⟩ := E20.out rfl
       have E25 := Aside0.mk hE25
       have E26 := Aside0.mk hE26
       have H0 := Aside0.mk h0
       have H1 := Aside0.mk h1
       clear hE25 hE26 h0 h1
       have hz28_0 : wc.cell? ⟨g28, 0, none⟩ = some (.slice A7 g.length c7) := (blk_cell BK28.out 0).trans rfl
       have hz30_0 : wc.cell? ⟨g30, 0, none⟩ = some (.int .i64 x0) := (blk_cell BK30.out 0).trans rfl
       have hz30_1 : wc.cell? ⟨g30, 1, none⟩ = some (.int .i64 x1) := (blk_cell BK30.out 1).trans rfl
       have hz30_2 : wc.cell? ⟨g30, 2, none⟩ = some (.int .i64 x2) := (blk_cell BK30.out 2).trans rfl
       have hz30_3 : wc.cell? ⟨g30, 3, none⟩ = some (.int .i64 x3) := (blk_cell BK30.out 3).trans rfl
       go_wp2_with (go_at_fn 53; fail)
       refine (impl_WindowBytes.calls k _ _ g x0 x1 x2 x3 al true _ HC7.out HL7.out E25.out).mono ?_
       rintro e w139 ⟨v9, rfl, ho9, hb⟩
       have HS := Aside0.mk hb
       replace BK3 := Aside0.mk (blk_below BK3.out hb)
       replace BK4 := Aside0.mk (blk_below BK4.out hb)
       replace BK8 := Aside0.mk (blk_below BK8.out hb)
       replace BK10 := Aside0.mk (blk_below BK10.out hb)
       replace BK12 := Aside0.mk (blk_below BK12.out hb)
       replace BK14 := Aside0.mk (blk_below BK14.out hb)
       replace BK16 := Aside0.mk (blk_below BK16.out hb)
       replace BK18 := Aside0.mk (blk_below BK18.out hb)
       replace BK28 := Aside0.mk (blk_below BK28.out hb)
       replace BK30 := Aside0.mk (blk_below BK30.out hb)
       replace BK32 := Aside0.mk (blk_below BK32.out hb)
       replace HC0 := Aside0.mk (Kd.C_below HC0.out hb)
       replace HC1 := Aside0.mk (Kd.C_below HC1.out hb)
       replace HC5 := Aside0.mk (Kd.C_below HC5.out hb)
       replace HC6 := Aside0.mk (Kd.C_below HC6.out hb)
       replace HC7 := Aside0.mk (Kd.C_below HC7.out hb)
       replace HTA := Aside0.mk (TabA.below HTA.out hb)
       replace HB := Aside0.mk (below_step HB.out hb)
       clear hb
       obtain ⟨A9, c9, eo⟩ := Kd.R_slice ho9
       subst eo
       have HC9 := Aside0.mk (Kd.R_reads' ho9).2.2
       have HL9 := Aside0.mk (Kd.R_reads' ho9).2.1
       clear ho9
       clear hz28_0 hz30_0 hz30_1 hz30_2 hz30_3
       have hz28_0 : w139.cell? ⟨g28, 0, none⟩ = some (.slice A7 g.length c7) := (blk_cell BK28.out 0).trans rfl
       obtain ⟨ad, Ae, ce, e7, hx7, hl7, hi7⟩ := at_L1 HC7.out a H0.out H1.out
       cases e7
       have p7 := eq_true H0.out
       have q7 := eq_true H1.out
       have HI := Aside0.mk hi7
       have HM := Aside0.mk hl7
       clear hi7 hl7
       go_wp2_with (go_at_call 55; refine (laws_rBytes.calls _ _ al _ _ (rd_L1 g a) true _ HC9.out HL9.out HI.out HM.out E26.out).mono ?_; rintro e wz ⟨rfl, hd⟩; have hb := hd.below; clear hd; replace HS := Aside0.mk (below_step HS.out hb); clear hb)
       go_meet
       case rel => exact ⟨HS.out⟩
     case rest =>
      have hb := hcut.out
      clear hcut
      replace BK3 := Aside0.mk (blk_below BK3.out hb)
      replace BK4 := Aside0.mk (blk_below BK4.out hb)
      replace BK8 := Aside0.mk (blk_below BK8.out hb)
      replace BK10 := Aside0.mk (blk_below BK10.out hb)
      replace BK12 := Aside0.mk (blk_below BK12.out hb)
      replace BK14 := Aside0.mk (blk_below BK14.out hb)
      replace BK16 := Aside0.mk (blk_below BK16.out hb)
      replace BK18 := Aside0.mk (blk_below BK18.out hb)
      replace BK28 := Aside0.mk (blk_below BK28.out hb)
      replace BK30 := Aside0.mk (blk_below BK30.out hb)
      replace BK32 := Aside0.mk (blk_below BK32.out hb)
      replace HC0 := Aside0.mk (Kd.C_below HC0.out hb)
      replace HC1 := Aside0.mk (Kd.C_below HC1.out hb)
      replace HC5 := Aside0.mk (Kd.C_below HC5.out hb)
      replace HC6 := Aside0.mk (Kd.C_below HC6.out hb)
      replace HC7 := Aside0.mk (Kd.C_below HC7.out hb)
      replace HTA := Aside0.mk (TabA.below HTA.out hb)
      replace HB := Aside0.mk (below_step HB.out hb)
      clear hb
      cases one
      ·go_wp2
       go_ret
       exact ⟨rfl, HB.out⟩
      obtain ⟨sm, hE27, h1, h2, h3, h4, h5⟩ := E21.out rfl
      have E27 := Aside0.mk hE27
      have H1 := Aside0.mk h1
      have H2 := Aside0.mk h2
      have H3 := Aside0.mk h3
      have H4 := Aside0.mk h4
      have H5 := Aside0.mk h5
      clear hE27 h1 h2 h3 h4 h5
      have hz3_0 : wc.cell? ⟨g3, 0, none⟩ = some (.slice A1 m.length c1) := (blk_cell BK3.out 0).trans rfl
      have hz12_0 : wc.cell? ⟨g12, 0, none⟩ = some (.int .i64 y0) := (blk_cell BK12.out 0).trans rfl
      have hz12_1 : wc.cell? ⟨g12, 1, none⟩ = some (.int .i64 y1) := (blk_cell BK12.out 1).trans rfl
      have hz12_2 : wc.cell? ⟨g12, 2, none⟩ = some (.int .i64 y2) := (blk_cell BK12.out 2).trans rfl
      have hz12_3 : wc.cell? ⟨g12, 3, none⟩ = some (.int .i64 y3) := (blk_cell BK12.out 3).trans rfl
      go_wp2_with (go_at_fn 53; fail)
      refine (impl_WindowBytes.calls k _ _ m y0 y1 y2 y3 sm true _ HC1.out HL1.out E27.out).mono ?_
      rintro e w140 ⟨v10, rfl, ho10, hb⟩
      replace BK3 := Aside0.mk (blk_below BK3.out hb)
      replace BK4 := Aside0.mk (blk_below BK4.out hb)
      replace BK8 := Aside0.mk (blk_below BK8.out hb)
      replace BK10 := Aside0.mk (blk_below BK10.out hb)
      replace BK12 := Aside0.mk (blk_below BK12.out hb)
      replace BK14 := Aside0.mk (blk_below BK14.out hb)
      replace BK16 := Aside0.mk (blk_below BK16.out hb)
      replace BK18 := Aside0.mk (blk_below BK18.out hb)
      replace BK28 := Aside0.mk (blk_below BK28.out hb)
      replace BK30 := Aside0.mk (blk_below BK30.out hb)
      replace BK32 := Aside0.mk (blk_below BK32.out hb)
      replace HC0 := Aside0.mk (Kd.C_below HC0.out hb)
      replace HC1 := Aside0.mk (Kd.C_below HC1.out hb)
      replace HC5 := Aside0.mk (Kd.C_below HC5.out hb)
      replace HC6 := Aside0.mk (Kd.C_below HC6.out hb)
      replace HC7 := Aside0.mk (Kd.C_below HC7.out hb)
      replace HTA := Aside0.mk (TabA.below HTA.out hb)
      replace HB := Aside0.mk (below_step HB.out hb)
      clear hb
      obtain ⟨A10, c10, eo⟩ := Kd.R_slice ho10
      subst eo
      have HC10 := Aside0.mk (Kd.R_reads' ho10).2.2
      have HL10 := Aside0.mk (Kd.R_reads' ho10).2.1
      clear ho10
      clear hz3_0 hz12_0 hz12_1 hz12_2 hz12_3
      go_upto_region 37 with (fail)
      go_cut [287] from 259 to 287 (fun v287 wc6 => v287 = .bool false ∧ Aside0 (Below w140.heap.size w140 wc6))
      case first =>
       have hz12_0 : w140.cell? ⟨g12, 0, none⟩ = some (.int .i64 y0) := (blk_cell BK12.out 0).trans rfl
       have hz12_1 : w140.cell? ⟨g12, 1, none⟩ = some (.int .i64 y1) := (blk_cell BK12.out 1).trans rfl
       have hz12_2 : w140.cell? ⟨g12, 2, none⟩ = some (.int .i64 y2) := (blk_cell BK12.out 2).trans rfl
       have hz12_3 : w140.cell? ⟨g12, 3, none⟩ = some (.int .i64 y3) := (blk_cell BK12.out 3).trans rfl
       have hz4_0 : w140.cell? ⟨g4, 0, none⟩ = some (.int .i64 s0) := (blk_cell BK4.out 0).trans rfl
       have hz4_1 : w140.cell? ⟨g4, 1, none⟩ = some (.int .i64 s1) := (blk_cell BK4.out 1).trans rfl
       have hz4_2 : w140.cell? ⟨g4, 2, none⟩ = some (.int .i64 s2) := (blk_cell BK4.out 2).trans rfl
       have hz4_3 : w140.cell? ⟨g4, 3, none⟩ = some (.int .i64 s3) := (blk_cell BK4.out 3).trans rfl
       have hz8_0 : w140.cell? ⟨g8, 0, none⟩ = some (.int .i64 t0) := (blk_cell BK8.out 0).trans rfl
       have hz8_1 : w140.cell? ⟨g8, 1, none⟩ = some (.int .i64 t1) := (blk_cell BK8.out 1).trans rfl
       have hz8_2 : w140.cell? ⟨g8, 2, none⟩ = some (.int .i64 t2) := (blk_cell BK8.out 2).trans rfl
       have hz8_3 : w140.cell? ⟨g8, 3, none⟩ = some (.int .i64 t3) := (blk_cell BK8.out 3).trans rfl
       have b_1 : ((sm.length : Int) != wrap64 (j - i)) = false := by rw [H1.out]; simp
       have b_2 : (y3 != wrap64 (s3 - i)) = false := by rw [H2.out]; simp
       have h3 := H3.out
       clear H1 H2 H3 H5 E3 E4 E5 E6
       cases ok
       ·go_wp2
        go_meet
        case rel => exact ⟨rfl, ⟨Below.refl _ _⟩⟩
       ·have b_3 : (y2 != t2) = false := by rw [h3 rfl]; simp
        clear h3
        go_wp2
        go_meet
        case rel => exact ⟨rfl, ⟨Below.refl _ _⟩⟩
      case rest =>
       obtain ⟨rfl, hS⟩ := hcut
       have hb := hS.out
       clear hS
       replace BK3 := Aside0.mk (blk_below BK3.out hb)
       replace BK4 := Aside0.mk (blk_below BK4.out hb)
       replace BK8 := Aside0.mk (blk_below BK8.out hb)
       replace BK10 := Aside0.mk (blk_below BK10.out hb)
       replace BK12 := Aside0.mk (blk_below BK12.out hb)
       replace BK14 := Aside0.mk (blk_below BK14.out hb)
       replace BK16 := Aside0.mk (blk_below BK16.out hb)
       replace BK18 := Aside0.mk (blk_below BK18.out hb)
       replace BK28 := Aside0.mk (blk_below BK28.out hb)
       replace BK30 := Aside0.mk (blk_below BK30.out hb)
       replace BK32 := Aside0.mk (blk_below BK32.out hb)
       replace HC0 := Aside0.mk (Kd.C_below HC0.out hb)
       replace HC1 := Aside0.mk (Kd.C_below HC1.out hb)
       replace HC5 := Aside0.mk (Kd.C_below HC5.out hb)
       replace HC6 := Aside0.mk (Kd.C_below HC6.out hb)
       replace HC7 := Aside0.mk (Kd.C_below HC7.out hb)
       replace HC10 := Aside0.mk (Kd.C_below HC10.out hb)
       replace HTA := Aside0.mk (TabA.below HTA.out hb)
       replace HB := Aside0.mk (below_step HB.out hb)
       clear hb
       clear E1 E2 E3 E4 E5 E6 E7 E8 E9 E10 E11 E12 E13 E14 E15 E16 E17 E18 E19 E20 E21 E22 E23 E24 E27
       clear H1 H2 H3 b_t b_u b_d b_v b_ok b_one b_four b_is b_five b_seven b_tx b_tx2
       obtain ⟨B, hB⟩ : ∃ B, B = sm.length := ⟨_, rfl⟩
       have HB2 := Aside0.mk hB
       clear hB
       go_wp2
       go_loopg [38] B (fun gg s38 wr => ∃ x : Nat, s38 = .int .i64 (x : Int) ∧ Aside0 (x ≤ B) ∧ Aside0 (B - x ≤ gg) ∧ Aside0 (Below wc.heap.size wc wr))
       case atStart => exact ⟨0, rfl, ⟨Nat.zero_le _⟩, ⟨by omega⟩, ⟨Below.refl _ _⟩⟩
       case round =>
        obtain ⟨x, rfl, HX, HG, hS⟩ := hrel
        have hb := hS.out
        replace BK3 := Aside0.mk (blk_below BK3.out hb)
        replace BK4 := Aside0.mk (blk_below BK4.out hb)
        replace BK8 := Aside0.mk (blk_below BK8.out hb)
        replace BK10 := Aside0.mk (blk_below BK10.out hb)
        replace BK12 := Aside0.mk (blk_below BK12.out hb)
        replace BK14 := Aside0.mk (blk_below BK14.out hb)
        replace BK16 := Aside0.mk (blk_below BK16.out hb)
        replace BK18 := Aside0.mk (blk_below BK18.out hb)
        replace BK28 := Aside0.mk (blk_below BK28.out hb)
        replace BK30 := Aside0.mk (blk_below BK30.out hb)
        replace BK32 := Aside0.mk (blk_below BK32.out hb)
        replace HC0 := Aside0.mk (Kd.C_below HC0.out hb)
        replace HC1 := Aside0.mk (Kd.C_below HC1.out hb)
        replace HC5 := Aside0.mk (Kd.C_below HC5.out hb)
        replace HC6 := Aside0.mk (Kd.C_below HC6.out hb)
        replace HC7 := Aside0.mk (Kd.C_below HC7.out hb)
        replace HC10 := Aside0.mk (Kd.C_below HC10.out hb)
        replace HTA := Aside0.mk (TabA.below HTA.out hb)
        replace HB := Aside0.mk (below_step HB.out hb)
        clear hb
        by_cases hlt : x < sm.length
        ·have c1 : decide ((x : Int) < (sm.length : Int)) = true := decide_eq_true (by omega)
         have hw : wrap64 ((x : Int) + 1) = ((x + 1 : Nat) : Int) := wrap_succ x (by have := H4.out; omega)
         have HLT := Aside0.mk hlt
         have HW := Aside0.mk hw
         clear hlt hw
         have p1 : 0 ≤ (x : Int) := by omega
         have q1 : (x : Int) < (sm.length : Int) := by have := HLT.out; omega
         obtain ⟨jx, hjx⟩ : ∃ j_ : Int, wrap64 (i + x) = j_ := ⟨_, rfl⟩
         have h5 := H5.out x HLT.out
         rw [hjx] at h5
         have H5x := Aside0.mk h5
         clear h5
         have hjw : IntKind.i64.wrap (i + x) = jx := (i64_w _).trans hjx
         by_cases hin : jx < (lst.length : Int)
         ·have c2 : decide (jx < (lst.length : Int)) = true := decide_eq_true hin
          obtain ⟨h0, hv⟩ := H5x.out hin
          have b_v : (rd sm (x : Int) != rd lst jx) = false := by rw [hv]; simp
          clear hv
          obtain ⟨ad1, e1, hx1⟩ := Kd.at_int HC10.out (x : Int) p1 q1
          cases e1
          rw [Int.toNat_natCast] at hx1
          obtain ⟨ad2, e2, hx2⟩ := Kd.at_int HC5.out jx h0 hin
          cases e2
          have P1 := eq_true p1
          have Q1 := eq_true q1
          have P2 := eq_true h0
          have Q2 := eq_true hin
          clear p1 q1 h0 hin
          try go_wp2
          refine start_ (n := 19) (S := fun w' => w'.cell? (ad1.add x) = some (.int .u8 (rd sm (x : Int))) ∧ w'.cell? (ad2.add jx.toNat) = some (.int .u8 (rd lst jx))) (ds := []) #[false, false, false, false, false, false, false, false, false, false, false, false, false, false, false, false, false, false, false] (by kernel_rfl) rfl rfl ⟨hx1, hx2⟩ (fun hHeld => ?_); refine with_tabW laws_FnSlices.tab42 laws_FnSlices.bits42 (fun HT_ HW_ => ?_)
          have HDr := Aside0.mk (below_drew1 (Below.refl wr.heap.size wr))
          clear HB HTA BK3 BK4 BK8 BK10 BK12 BK14 BK16 BK18 BK28 BK30 BK32 HC0 HC1 HC5 HC6 HC7 HC10
          generalize wr.drew = wd at HDr hHeld hx1 hx2 ⊢
          refine pure_ (i := 0) (N := some 294) (v := ?_) (a' := ?_) #[true, false, false, false, false, false, false, false, false, false, false, false, false, false, false, false, false, false, false] rfl rfl (any_of HT_.out (by kernel_rfl)) (fun _ _ _ h => h) (Or.inl ⟨by rfl, ?_⟩) ?_ ?_
          rotate_left
          ·intro w'
           go_simp
           with_reducible rfl
          rotate_left
          ·simp only [Act.put, List.setIfInBounds_toArray, List.set_cons_zero, List.set_cons_succ, i64_w, i32_w]
           rfl
          refine pure_ (i := 1) (N := some 295) (v := ?_) (a' := ?_) #[true, true, false, false, false, false, false, false, false, false, false, false, false, false, false, false, false, false, false] rfl rfl (any_of HT_.out (by kernel_rfl)) (fun _ _ _ h => h) (Or.inl ⟨by rfl, ?_⟩) ?_ ?_
          rotate_left
          ·intro w'
           go_simp
           with_reducible rfl
          rotate_left
          ·simp only [Act.put, List.setIfInBounds_toArray, List.set_cons_zero, List.set_cons_succ, i64_w, i32_w]
           rfl
          refine pure_ (i := 2) (N := some 296) (v := ?_) (a' := ?_) #[true, true, true, false, false, false, false, false, false, false, false, false, false, false, false, false, false, false, false] rfl rfl (any_of HT_.out (by kernel_rfl)) (fun _ _ _ h => h) (Or.inl ⟨by rfl, ?_⟩) ?_ ?_
          rotate_left
          ·intro w'
           go_simp
           with_reducible rfl
          rotate_left
          ·simp only [Act.put, List.setIfInBounds_toArray, List.set_cons_zero, List.set_cons_succ, i64_w, i32_w]
           rfl
          refine pure_ (i := 3) (N := some 297) (v := ?_) (a' := ?_) #[true, true, true, true, false, false, false, false, false, false, false, false, false, false, false, false, false, false, false] rfl rfl (any_of HT_.out (by kernel_rfl)) (fun _ _ _ h => h) (Or.inl ⟨by rfl, ?_⟩) ?_ ?_
          rotate_left
          ·intro w'
           go_simp
           with_reducible rfl
          rotate_left
          ·simp only [Act.put, List.setIfInBounds_toArray, List.set_cons_zero, List.set_cons_succ, i64_w, i32_w]
           rfl
          refine pure_ (i := 4) (N := some 298) (v := ?_) (a' := ?_) #[true, true, true, true, true, false, false, false, false, false, false, false, false, false, false, false, false, false, false] rfl rfl (any_of HT_.out (by kernel_rfl)) (fun _ _ _ h => h) (Or.inl ⟨by rfl, ?_⟩) ?_ ?_
          rotate_left
          ·intro w'
           go_simp
           with_reducible rfl
          rotate_left
          ·simp only [Act.put, List.setIfInBounds_toArray, List.set_cons_zero, List.set_cons_succ, i64_w, i32_w]
           rfl
          refine pure_ (i := 5) (N := some 299) (v := ?_) (a' := ?_) #[true, true, true, true, true, true, false, false, false, false, false, false, false, false, false, false, false, false, false] rfl rfl (any_of HT_.out (by kernel_rfl)) (fun _ _ _ h => h) (Or.inl ⟨by rfl, ?_⟩) ?_ ?_
          rotate_left
          ·intro w'
           go_simp
           with_reducible rfl
          rotate_left
          ·simp only [Act.put, List.setIfInBounds_toArray, List.set_cons_zero, List.set_cons_succ, i64_w, i32_w]
           rfl
          refine pure_ (i := 6) (N := some 300) (v := ?_) (a' := ?_) #[true, true, true, true, true, true, true, false, false, false, false, false, false, false, false, false, false, false, false] rfl rfl (any_of HT_.out (by kernel_rfl)) (fun _ _ _ h => h) (Or.inl ⟨by rfl, ?_⟩) ?_ ?_
          rotate_left
          ·intro w'
           go_simp
           with_reducible rfl
          rotate_left
          ·simp only [Act.put, List.setIfInBounds_toArray, List.set_cons_zero, List.set_cons_succ, i64_w, i32_w]
           rfl
          refine pure_ (i := 7) (N := some 301) (v := ?_) (a' := ?_) #[true, true, true, true, true, true, true, true, false, false, false, false, false, false, false, false, false, false, false] rfl rfl (any_of HT_.out (by kernel_rfl)) (fun _ _ _ h => h) (Or.inl ⟨by rfl, ?_⟩) ?_ ?_
          rotate_left
          ·intro w'
           go_simp
           with_reducible rfl
          rotate_left
          ·simp only [Act.put, List.setIfInBounds_toArray, List.set_cons_zero, List.set_cons_succ, i64_w, i32_w]
           rfl
          refine pure_ (i := 8) (N := some 302) (v := ?_) (a' := ?_) #[true, true, true, true, true, true, true, true, true, false, false, false, false, false, false, false, false, false, false] rfl rfl (any_of HT_.out (by kernel_rfl)) (fun _ _ _ h => h) (Or.inl ⟨by rfl, ?_⟩) ?_ ?_
          rotate_left
          ·intro w'
           go_simp
           with_reducible rfl
          rotate_left
          ·simp only [Act.put, List.setIfInBounds_toArray, List.set_cons_zero, List.set_cons_succ, i64_w, i32_w]
           rfl
          refine pure_ (i := 9) (N := some 303) (v := ?_) (a' := ?_) #[true, true, true, true, true, true, true, true, true, true, false, false, false, false, false, false, false, false, false] rfl rfl (any_of HT_.out (by kernel_rfl)) (fun _ _ _ h => h) (Or.inl ⟨by rfl, ?_⟩) ?_ ?_
          rotate_left
          ·intro w'
           go_simp
           with_reducible rfl
          rotate_left
          ·simp only [Act.put, List.setIfInBounds_toArray, List.set_cons_zero, List.set_cons_succ, i64_w, i32_w]
           rfl
          refine pure_ (i := 11) (N := some 305) (v := ?_) (a' := ?_) #[true, true, true, true, true, true, true, true, true, true, false, true, false, false, false, false, false, false, false] rfl rfl (any_of HT_.out (by kernel_rfl)) (fun _ _ _ h => h) (Or.inl ⟨by rfl, ?_⟩) ?_ ?_
          rotate_left
          ·intro w'
           go_simp
           with_reducible rfl
          rotate_left
          ·simp only [Act.put, List.setIfInBounds_toArray, List.set_cons_zero, List.set_cons_succ, i64_w, i32_w]
           rfl
          refine pure_ (i := 12) (N := some 306) (v := ?_) (a' := ?_) #[true, true, true, true, true, true, true, true, true, true, false, true, true, false, false, false, false, false, false] rfl rfl (any_of HT_.out (by kernel_rfl)) (fun _ _ _ h => h) (Or.inl ⟨by rfl, ?_⟩) ?_ ?_
          rotate_left
          ·intro w'
           go_simp
           with_reducible rfl
          rotate_left
          ·simp only [Act.put, List.setIfInBounds_toArray, List.set_cons_zero, List.set_cons_succ, i64_w, i32_w]
           rfl
          refine pure_ (i := 13) (N := some 307) (v := ?_) (a' := ?_) #[true, true, true, true, true, true, true, true, true, true, false, true, true, true, false, false, false, false, false] rfl rfl (any_of HT_.out (by kernel_rfl)) (fun _ _ _ h => h) (Or.inl ⟨by rfl, ?_⟩) ?_ ?_
          rotate_left
          ·intro w'
           go_simp
           with_reducible rfl
          rotate_left
          ·simp only [Act.put, List.setIfInBounds_toArray, List.set_cons_zero, List.set_cons_succ, i64_w, i32_w]
           rfl
          refine pure_ (i := 14) (N := some 308) (v := ?_) (a' := ?_) #[true, true, true, true, true, true, true, true, true, true, false, true, true, true, true, false, false, false, false] rfl rfl (any_of HT_.out (by kernel_rfl)) (fun _ _ _ h => h) (Or.inl ⟨by rfl, ?_⟩) ?_ ?_
          rotate_left
          ·intro w'
           go_simp
           with_reducible rfl
          rotate_left
          ·simp only [Act.put, List.setIfInBounds_toArray, List.set_cons_zero, List.set_cons_succ, i64_w, i32_w]
           rfl
          refine pure_ (i := 15) (N := some 309) (v := ?_) (a' := ?_) #[true, true, true, true, true, true, true, true, true, true, false, true, true, true, true, true, false, false, false] rfl rfl (any_of HT_.out (by kernel_rfl)) (fun _ _ _ h => h) (Or.inl ⟨by rfl, ?_⟩) ?_ ?_
          rotate_left
          ·intro w'
           go_simp
           with_reducible rfl
          rotate_left
          ·simp only [Act.put, List.setIfInBounds_toArray, List.set_cons_zero, List.set_cons_succ, i64_w, i32_w]
           rfl
          refine take_ (i := 10) (N := some 304) (v := ?_) (a' := ?_) #[true, true, true, true, true, true, true, true, true, true, true, true, true, true, true, true, false, false, false] rfl rfl (take_ofW HT_.out HW_.out (by kernel_rfl)) (fun _ _ _ h => h) (Or.inl ⟨by rfl, ?_⟩) hHeld ?_ ?_
          rotate_left
          ·rintro w' ⟨s0, s1⟩
           go_simp
           with_reducible rfl
          rotate_left
          ·simp only [Act.put, List.setIfInBounds_toArray, List.set_cons_zero, List.set_cons_succ, i64_w, i32_w]
           rfl
          refine take_ (i := 16) (N := some 310) (v := ?_) (a' := ?_) #[true, true, true, true, true, true, true, true, true, true, true, true, true, true, true, true, true, false, false] rfl rfl (take_ofW HT_.out HW_.out (by kernel_rfl)) (fun _ _ _ h => h) (Or.inl ⟨by rfl, ?_⟩) hHeld ?_ ?_
          rotate_left
          ·rintro w' ⟨s0, s1⟩
           go_simp
           with_reducible rfl
          rotate_left
          ·simp only [Act.put, List.setIfInBounds_toArray, List.set_cons_zero, List.set_cons_succ, i64_w, i32_w]
           rfl
          refine pure_ (i := 17) (N := some 311) (v := ?_) (a' := ?_) #[true, true, true, true, true, true, true, true, true, true, true, true, true, true, true, true, true, true, false] rfl rfl (any_of HT_.out (by kernel_rfl)) (fun _ _ _ h => h) (Or.inl ⟨by rfl, ?_⟩) ?_ ?_
          rotate_left
          ·intro w'
           go_simp
           with_reducible rfl
          rotate_left
          ·simp only [Act.put, List.setIfInBounds_toArray, List.set_cons_zero, List.set_cons_succ, i64_w, i32_w]
           rfl
          refine pure_ (i := 18) (N := some 312) (v := ?_) (a' := ?_) #[true, true, true, true, true, true, true, true, true, true, true, true, true, true, true, true, true, true, true] rfl rfl (any_of HT_.out (by kernel_rfl)) (fun _ _ _ h => h) (Or.inl ⟨by rfl, ?_⟩) ?_ ?_
          rotate_left
          ·intro w'
           go_simp
           with_reducible rfl
          rotate_left
          ·simp only [Act.put, List.setIfInBounds_toArray, List.set_cons_zero, List.set_cons_succ, i64_w, i32_w]
           rfl
          refine done_ (done_of HT_.out (by kernel_rfl)) ?_
          try go_wp2
          go_roundg (B - (x + 1))
          case measure => have h1_ := HLT.out; have h2_ := HG.out; have h3_ := HB2.out; omega
          case rel => exact ⟨x + 1, (by first | rfl | go_num | (rw [HW.out]) | (simp only [i64_w]; rw [HW.out]) | (simp [HW.out]; done)), ⟨by have h1_ := HLT.out; have h3_ := HB2.out; omega⟩, ⟨by omega⟩, ⟨by exact below_step hS.out HDr.out⟩⟩
         ·have c2 : decide (jx < (lst.length : Int)) = false := decide_eq_false hin
          clear hin
          try go_wp2
          refine start_ (n := 19) (S := fun w' => True) (ds := []) #[false, false, false, false, false, false, false, false, false, false, false, false, false, false, false, false, false, false, false] (by kernel_rfl) rfl rfl trivial (fun hHeld => ?_); refine with_tabW laws_FnSlices.tab42 laws_FnSlices.bits42 (fun HT_ HW_ => ?_)
          have HDr := Aside0.mk (below_drew1 (Below.refl wr.heap.size wr))
          clear HB HTA BK3 BK4 BK8 BK10 BK12 BK14 BK16 BK18 BK28 BK30 BK32 HC0 HC1 HC5 HC6 HC7 HC10
          generalize wr.drew = wd at HDr hHeld ⊢
          refine pure_ (i := 0) (N := some 294) (v := ?_) (a' := ?_) #[true, false, false, false, false, false, false, false, false, false, false, false, false, false, false, false, false, false, false] rfl rfl (any_of HT_.out (by kernel_rfl)) (fun _ _ _ h => h) (Or.inl ⟨by rfl, ?_⟩) ?_ ?_
          rotate_left
          ·intro w'
           go_simp
           with_reducible rfl
          rotate_left
          ·simp only [Act.put, List.setIfInBounds_toArray, List.set_cons_zero, List.set_cons_succ, i64_w, i32_w]
           rfl
          refine pure_ (i := 1) (N := some 295) (v := ?_) (a' := ?_) #[true, true, false, false, false, false, false, false, false, false, false, false, false, false, false, false, false, false, false] rfl rfl (any_of HT_.out (by kernel_rfl)) (fun _ _ _ h => h) (Or.inl ⟨by rfl, ?_⟩) ?_ ?_
          rotate_left
          ·intro w'
           go_simp
           with_reducible rfl
          rotate_left
          ·simp only [Act.put, List.setIfInBounds_toArray, List.set_cons_zero, List.set_cons_succ, i64_w, i32_w]
           rfl
          refine pure_ (i := 2) (N := some 296) (v := ?_) (a' := ?_) #[true, true, true, false, false, false, false, false, false, false, false, false, false, false, false, false, false, false, false] rfl rfl (any_of HT_.out (by kernel_rfl)) (fun _ _ _ h => h) (Or.inl ⟨by rfl, ?_⟩) ?_ ?_
          rotate_left
          ·intro w'
           go_simp
           with_reducible rfl
          rotate_left
          ·simp only [Act.put, List.setIfInBounds_toArray, List.set_cons_zero, List.set_cons_succ, i64_w, i32_w]
           rfl
          refine pure_ (i := 3) (N := some 297) (v := ?_) (a' := ?_) #[true, true, true, true, false, false, false, false, false, false, false, false, false, false, false, false, false, false, false] rfl rfl (any_of HT_.out (by kernel_rfl)) (fun _ _ _ h => h) (Or.inl ⟨by rfl, ?_⟩) ?_ ?_
          rotate_left
          ·intro w'
           go_simp
           with_reducible rfl
          rotate_left
          ·simp only [Act.put, List.setIfInBounds_toArray, List.set_cons_zero, List.set_cons_succ, i64_w, i32_w]
           rfl
          refine pure_ (i := 4) (N := some 298) (v := ?_) (a' := ?_) #[true, true, true, true, true, false, false, false, false, false, false, false, false, false, false, false, false, false, false] rfl rfl (any_of HT_.out (by kernel_rfl)) (fun _ _ _ h => h) (Or.inl ⟨by rfl, ?_⟩) ?_ ?_
          rotate_left
          ·intro w'
           go_simp
           with_reducible rfl
          rotate_left
          ·simp only [Act.put, List.setIfInBounds_toArray, List.set_cons_zero, List.set_cons_succ, i64_w, i32_w]
           rfl
          refine pure_ (i := 5) (N := some 299) (v := ?_) (a' := ?_) #[true, true, true, true, true, true, false, false, false, false, false, false, false, false, false, false, false, false, false] rfl rfl (any_of HT_.out (by kernel_rfl)) (fun _ _ _ h => h) (Or.inl ⟨by rfl, ?_⟩) ?_ ?_
          rotate_left
          ·intro w'
           go_simp
           with_reducible rfl
          rotate_left
          ·simp only [Act.put, List.setIfInBounds_toArray, List.set_cons_zero, List.set_cons_succ, i64_w, i32_w]
           rfl
          refine pure_ (i := 6) (N := some 300) (v := ?_) (a' := ?_) #[true, true, true, true, true, true, true, false, false, false, false, false, false, false, false, false, false, false, false] rfl rfl (any_of HT_.out (by kernel_rfl)) (fun _ _ _ h => h) (Or.inl ⟨by rfl, ?_⟩) ?_ ?_
          rotate_left
          ·intro w'
           go_simp
           with_reducible rfl
          rotate_left
          ·simp only [Act.put, List.setIfInBounds_toArray, List.set_cons_zero, List.set_cons_succ, i64_w, i32_w]
           rfl
          refine pure_ (i := 7) (N := some 301) (v := undef) (a' := ?_) #[true, true, true, true, true, true, true, true, false, false, false, false, false, false, false, false, false, false, false] rfl rfl (any_of HT_.out (by kernel_rfl)) (fun _ _ _ h => h) (Or.inr ⟨by rfl, rfl⟩) ?_ ?_
          rotate_left
          ·simp only [Act.put, List.setIfInBounds_toArray, List.set_cons_zero, List.set_cons_succ, i64_w, i32_w]
           rfl
          refine pure_ (i := 8) (N := some 302) (v := undef) (a' := ?_) #[true, true, true, true, true, true, true, true, true, false, false, false, false, false, false, false, false, false, false] rfl rfl (any_of HT_.out (by kernel_rfl)) (fun _ _ _ h => h) (Or.inr ⟨by rfl, rfl⟩) ?_ ?_
          rotate_left
          ·simp only [Act.put, List.setIfInBounds_toArray, List.set_cons_zero, List.set_cons_succ, i64_w, i32_w]
           rfl
          refine pure_ (i := 9) (N := some 303) (v := undef) (a' := ?_) #[true, true, true, true, true, true, true, true, true, true, false, false, false, false, false, false, false, false, false] rfl rfl (any_of HT_.out (by kernel_rfl)) (fun _ _ _ h => h) (Or.inr ⟨by rfl, rfl⟩) ?_ ?_
          rotate_left
          ·simp only [Act.put, List.setIfInBounds_toArray, List.set_cons_zero, List.set_cons_succ, i64_w, i32_w]
           rfl
          refine pure_ (i := 10) (N := some 304) (v := undef) (a' := ?_) #[true, true, true, true, true, true, true, true, true, true, true, false, false, false, false, false, false, false, false] rfl rfl (any_of HT_.out (by kernel_rfl)) (fun _ _ _ h => h) (Or.inr ⟨by rfl, rfl⟩) ?_ ?_
          rotate_left
          ·simp only [Act.put, List.setIfInBounds_toArray, List.set_cons_zero, List.set_cons_succ, i64_w, i32_w]
           rfl
          refine pure_ (i := 11) (N := some 305) (v := undef) (a' := ?_) #[true, true, true, true, true, true, true, true, true, true, true, true, false, false, false, false, false, false, false] rfl rfl (any_of HT_.out (by kernel_rfl)) (fun _ _ _ h => h) (Or.inr ⟨by rfl, rfl⟩) ?_ ?_
          rotate_left
          ·simp only [Act.put, List.setIfInBounds_toArray, List.set_cons_zero, List.set_cons_succ, i64_w, i32_w]
           rfl
          refine pure_ (i := 12) (N := some 306) (v := undef) (a' := ?_) #[true, true, true, true, true, true, true, true, true, true, true, true, true, false, false, false, false, false, false] rfl rfl (any_of HT_.out (by kernel_rfl)) (fun _ _ _ h => h) (Or.inr ⟨by rfl, rfl⟩) ?_ ?_
          rotate_left
          ·simp only [Act.put, List.setIfInBounds_toArray, List.set_cons_zero, List.set_cons_succ, i64_w, i32_w]
           rfl
          refine pure_ (i := 13) (N := some 307) (v := undef) (a' := ?_) #[true, true, true, true, true, true, true, true, true, true, true, true, true, true, false, false, false, false, false] rfl rfl (any_of HT_.out (by kernel_rfl)) (fun _ _ _ h => h) (Or.inr ⟨by rfl, rfl⟩) ?_ ?_
          rotate_left
          ·simp only [Act.put, List.setIfInBounds_toArray, List.set_cons_zero, List.set_cons_succ, i64_w, i32_w]
           rfl
          refine pure_ (i := 14) (N := some 308) (v := undef) (a' := ?_) #[true, true, true, true, true, true, true, true, true, true, true, true, true, true, true, false, false, false, false] rfl rfl (any_of HT_.out (by kernel_rfl)) (fun _ _ _ h => h) (Or.inr ⟨by rfl, rfl⟩) ?_ ?_
          rotate_left
          ·simp only [Act.put, List.setIfInBounds_toArray, List.set_cons_zero, List.set_cons_succ, i64_w, i32_w]
           rfl
          refine pure_ (i := 15) (N := some 309) (v := undef) (a' := ?_) #[true, true, true, true, true, true, true, true, true, true, true, true, true, true, true, true, false, false, false] rfl rfl (any_of HT_.out (by kernel_rfl)) (fun _ _ _ h => h) (Or.inr ⟨by rfl, rfl⟩) ?_ ?_
          rotate_left
          ·simp only [Act.put, List.setIfInBounds_toArray, List.set_cons_zero, List.set_cons_succ, i64_w, i32_w]
           rfl
          refine pure_ (i := 16) (N := some 310) (v := undef) (a' := ?_) #[true, true, true, true, true, true, true, true, true, true, true, true, true, true, true, true, true, false, false] rfl rfl (any_of HT_.out (by kernel_rfl)) (fun _ _ _ h => h) (Or.inr ⟨by rfl, rfl⟩) ?_ ?_
          rotate_left
          ·simp only [Act.put, List.setIfInBounds_toArray, List.set_cons_zero, List.set_cons_succ, i64_w, i32_w]
           rfl
          refine pure_ (i := 17) (N := some 311) (v := undef) (a' := ?_) #[true, true, true, true, true, true, true, true, true, true, true, true, true, true, true, true, true, true, false] rfl rfl (any_of HT_.out (by kernel_rfl)) (fun _ _ _ h => h) (Or.inr ⟨by rfl, rfl⟩) ?_ ?_
          rotate_left
          ·simp only [Act.put, List.setIfInBounds_toArray, List.set_cons_zero, List.set_cons_succ, i64_w, i32_w]
           rfl
          refine pure_ (i := 18) (N := some 312) (v := ?_) (a' := ?_) #[true, true, true, true, true, true, true, true, true, true, true, true, true, true, true, true, true, true, true] rfl rfl (any_of HT_.out (by kernel_rfl)) (fun _ _ _ h => h) (Or.inl ⟨by rfl, ?_⟩) ?_ ?_
          rotate_left
          ·intro w'
           go_simp
           with_reducible rfl
          rotate_left
          ·simp only [Act.put, List.setIfInBounds_toArray, List.set_cons_zero, List.set_cons_succ, i64_w, i32_w]
           rfl
          refine done_ (done_of HT_.out (by kernel_rfl)) ?_
          try go_wp2
          go_roundg (B - (x + 1))
          case measure => have h1_ := HLT.out; have h2_ := HG.out; have h3_ := HB2.out; omega
          case rel => exact ⟨x + 1, (by first | rfl | go_num | (rw [HW.out]) | (simp only [i64_w]; rw [HW.out]) | (simp [HW.out]; done)), ⟨by have h1_ := HLT.out; have h3_ := HB2.out; omega⟩, ⟨by omega⟩, ⟨by exact below_step hS.out HDr.out⟩⟩
        ·have c1 : decide ((x : Int) < (sm.length : Int)) = false := decide_eq_false (by omega)
         go_wp2
         go_ret
         exact ⟨rfl, HB.out⟩
set_option maxHeartbeats 4000000 in
set_option maxRecDepth 100000 in
theorem laws_FnSlices.big (A0 : Option Addr) (c0 : Nat) (l0 : List Int) (w : World) (hr0 : Kd.C (Kd.int .u8) w A0 l0.length l0) (hc0 : l0.length ≤ c0) (hE1 : laws_rBig.f l0 = some true) :
    Calls Tryd.prog 5 #[.slice A0 l0.length c0] w fun e w' => e = .returned (.bool true) ∧ Below w.heap.size w w' := by
  have HC0 := Aside0.mk hr0
  have HL0 := Aside0.mk hc0
  have E1 := Aside0.mk hE1
  clear hr0 hc0 hE1
  go_enter Tryd.func5, Tryd.ntmps5
  go_wp2_with (go_at_fn 42; fail)
  refine (laws_rBig.calls _ _ l0 true _ HC0.out HL0.out E1.out).mono ?_
  rintro e w' ⟨rfl, hd⟩
  have HB := Aside0.mk hd.below
  clear hd
  go_wp2
  go_ret
  exact ⟨rfl, HB.out⟩
end Go.Proofs.YthnchjgffocigaaDoor.P
end
section
namespace Go.Proofs.YthnchjgffocigaaDoor.P
open Go.RowKit Go.Proofs.YthnchjgffocigaaDoorW.PrintWords Go.Proofs.YthnchjgffocigaaDoorW.PrintLast Go.Proofs.YthnchjgffocigaaDoorW.PrintMore
def FnSlicesTrue : Prop := ∀ (A0 : Option Addr) (c0 : Nat) (l0 : List Int) (w : World), Kd.C (Kd.int .u8) w A0 l0.length l0 → l0.length ≤ c0 → (fun l => l.length ≤ 9223372036854775807 ∧ ∀ x ∈ l, (fun x => (Lit.int .u8 x).wf = true) x) l0 → Aside0 (TabA w) → Calls Tryd.prog 5 #[.slice A0 l0.length c0] w fun e w' => e = .returned (.bool true) ∧ Below w.heap.size w w'
end Go.Proofs.YthnchjgffocigaaDoor.P
end
section
namespace Go.Proofs.YthnchjgffocigaaDoor.P
open Go.RowKit Go.Proofs.YthnchjgffocigaaDoorW.PrintWords Go.Proofs.YthnchjgffocigaaDoorW.PrintLast Go.Proofs.YthnchjgffocigaaDoorW.PrintMore
set_option linter.unusedVariables false
set_option linter.unusedSimpArgs false
def jt (c : UInt8) : List ByteArray → List UInt8
  | [] => []
  | x :: xs => c :: (x.data.toList ++ jt c xs)
theorem join_jt (c : UInt8) (x : ByteArray) (xs : List ByteArray) : Lib.join ((x :: xs).map (·.data.toList)) [c] = x.data.toList ++ jt c xs := by
  rw [List.map_cons, Lib.join_cons]
  congr 1
  induction xs with
  | nil => rfl
  | cons y ys ih =>
    simp only [Lib.joinTail, List.map_cons, List.flatten_cons] at ih ⊢
    rw [ih]
    simp [jt]
theorem app_list (a b : ByteArray) : (a ++ b).data.toList = a.data.toList ++ b.data.toList := by simp
theorem app_size (a b : ByteArray) : (a ++ b).size = a.size + b.size := by simp
theorem dd_small {u : Nat} (h : u < 10) : Lib.decDigits u = [UInt8.ofNat (48 + u)] := by rw [Lib.decDigits, dif_pos h]
theorem dd_big {u : Nat} (h : ¬ u < 10) : Lib.decDigits u = Lib.decDigits (u / 10) ++ [UInt8.ofNat (48 + u % 10)] := by rw [Lib.decDigits, dif_neg h]
theorem dd_len : ∀ (k u : Nat), u < 10 ^ (k + 1) → (Lib.decDigits u).length ≤ k + 1
  | 0, u, h => by rw [dd_small (by simpa using h)]; simp
  | k + 1, u, h => by
    by_cases h1 : u < 10
    · rw [dd_small h1]; simp
    · have := dd_len k (u / 10) (by rw [Nat.pow_succ] at h; omega)
      rw [dd_big h1, List.length_append]
      simp only [List.length_cons, List.length_nil]
      omega
theorem itoa_len (n : Int) (h0 : -9223372036854775808 ≤ n) (h1 : n ≤ 9223372036854775807) : (Lib.itoa n).length ≤ 20 := by
  unfold Lib.itoa
  by_cases h : n < 0
  · rw [if_pos h]
    have := dd_len 18 n.natAbs (by omega)
    simp only [List.length_cons]
    omega
  · rw [if_neg h]
    have := dd_len 18 n.toNat (by omega)
    omega
def itoaB (n : Int) : ByteArray := ⟨(Lib.itoa n).toArray⟩
theorem itoaB_size (n : Int) (h0 : -9223372036854775808 ≤ n) (h1 : n ≤ 9223372036854775807) : (itoaB n).size ≤ 20 := by
  rw [size_list]
  exact itoa_len n h0 h1
theorem ex_dig (n : Nat) (h : n < 10) : (⟨#[48, 49, 50, 51, 52, 53, 54, 55, 56, 57]⟩ : ByteArray).extract n (n + 1) = ⟨#[UInt8.ofNat (48 + n)]⟩ := by
  have h2 : ∀ k : Fin 10, ((⟨#[48, 49, 50, 51, 52, 53, 54, 55, 56, 57]⟩ : ByteArray).extract k.val (k.val + 1)).data.toList = [UInt8.ofNat (48 + k.val)] := by decide +kernel
  exact ba_ext (h2 ⟨n, h⟩)
theorem dd_ba (u : Nat) (h : ¬ u < 10) : (⟨(Lib.decDigits (u / 10)).toArray⟩ : ByteArray) ++ (⟨#[UInt8.ofNat (48 + u % 10)]⟩ : ByteArray) = ⟨(Lib.decDigits u).toArray⟩ := by
  apply ba_ext
  rw [app_list, dd_big h]
theorem sz_dd (u : Nat) : (⟨(Lib.decDigits u).toArray⟩ : ByteArray).size = (Lib.decDigits u).length := by rw [size_list]
theorem num_nat : ∀ (m u : Nat), u ≤ m → u ≤ 9223372036854775808 → Ev (fun k => spec_l1Num.f k (u : Int)) (⟨(Lib.decDigits u).toArray⟩ : ByteArray) := by
  intro m
  induction m with
  | zero =>
    intro u h h2
    obtain rfl : u = 0 := by omega
    refine Ev.end_ (fun k => ?_)
    rw [spec_l1Num.f, if_neg (by omega), if_pos (by omega), if_pos (by omega), show wrap64 (((0 : Nat) : Int) + 1) = ((0 + 1 : Nat) : Int) from wrap_succ 0 (by omega), if_pos (by omega), if_pos (by omega), Int.toNat_natCast, Int.toNat_natCast, ex_dig 0 (by omega), dd_small (by omega)]
  | succ m ih =>
    intro u h h2
    by_cases h1 : u < 10
    · refine Ev.end_ (fun k => ?_)
      rw [spec_l1Num.f, if_neg (by omega), if_pos (by omega), if_pos (by omega), wrap_succ u (by omega), if_pos (by omega), if_pos (by omega), Int.toNat_natCast, Int.toNat_natCast, ex_dig u h1, dd_small h1]
    · obtain ⟨K, hK⟩ := ih (u / 10) (by omega) (by omega)
      refine ⟨K + 1, fun k hk => ?_⟩
      obtain ⟨k, rfl⟩ : ∃ j, k = j + 1 := ⟨k - 1, by omega⟩
      have e := hK k (by omega)
      have hl := dd_len 18 (u / 10) (by omega)
      have ht : Int.tdiv (u : Int) 10 = ((u / 10 : Nat) : Int) := by rw [Int.tdiv_eq_ediv_of_nonneg (by omega)]; omega
      have ht2 : Int.tmod (u : Int) 10 = ((u % 10 : Nat) : Int) := by rw [Int.tmod_eq_emod_of_nonneg (by omega)]; omega
      dsimp only at e ⊢
      rw [spec_l1Num.f, if_neg (by omega), if_neg (by omega), ht, wrap_in (x := ((u / 10 : Nat) : Int)) (by omega) (by omega), e, Option.bind_some, ht2, if_pos (by omega), wrap_succ (u % 10) (by omega), if_pos (by omega), if_pos (by omega), Int.toNat_natCast, Int.toNat_natCast, ex_dig (u % 10) (by omega), dd_ba u h1, sz_dd, if_pos (by show _ + 1 ≤ _; omega)]
theorem neg_ba (l : List UInt8) : (⟨#[45]⟩ : ByteArray) ++ (⟨l.toArray⟩ : ByteArray) = ⟨(45 :: l).toArray⟩ := by
  apply ba_ext
  rw [app_list]
  rfl
theorem num_neg : ∀ (m u : Nat), u ≤ m → 1 ≤ u → u ≤ 9223372036854775808 → Ev (fun k => spec_l1Num.f k (-(u : Int))) (⟨(45 :: Lib.decDigits u).toArray⟩ : ByteArray) := by
  intro m
  induction m with
  | zero => intro u h h1; omega
  | succ m ih =>
    intro u h h1 h2
    by_cases h3 : u < 10
    · obtain ⟨K, hK⟩ := num_nat u u (Nat.le_refl _) (by omega)
      refine ⟨K + 1, fun k hk => ?_⟩
      obtain ⟨k, rfl⟩ : ∃ j, k = j + 1 := ⟨k - 1, by omega⟩
      have e := hK k (by omega)
      dsimp only at e ⊢
      rw [spec_l1Num.f, if_pos (by omega), if_pos (by omega), wrap_in (x := - -(u : Int)) (by omega) (by omega), Int.neg_neg, e, Option.bind_some, sz_dd, dd_small h3, if_pos (by simp), neg_ba]
    · obtain ⟨K, hK⟩ := ih (u / 10) (by omega) (by omega) (by omega)
      obtain ⟨K2, hK2⟩ := num_nat (u % 10) (u % 10) (Nat.le_refl _) (by omega)
      refine ⟨K + K2 + 1, fun k hk => ?_⟩
      obtain ⟨k, rfl⟩ : ∃ j, k = j + 1 := ⟨k - 1, by omega⟩
      have e := hK k (by omega)
      have e2 := hK2 k (by omega)
      have hl := dd_len 18 (u / 10) (by omega)
      have ht : Int.tdiv (-(u : Int)) 10 = -((u / 10 : Nat) : Int) := by rw [Int.neg_tdiv, Int.tdiv_eq_ediv_of_nonneg (by omega)]; omega
      have ht2 : Int.tmod (-(u : Int)) 10 = -((u % 10 : Nat) : Int) := by rw [Int.neg_tmod, Int.tmod_eq_emod_of_nonneg (by omega)]; omega
      dsimp only at e e2 ⊢
      rw [spec_l1Num.f, if_pos (by omega), if_neg (by omega), ht, wrap_in (x := -((u / 10 : Nat) : Int)) (by omega) (by omega), e, Option.bind_some, ht2, wrap_in (x := - -((u % 10 : Nat) : Int)) (by omega) (by omega), Int.neg_neg, e2, Option.bind_some, sz_dd, dd_small (u := u % 10) (by omega), if_pos (by rw [size_list]; simp only [List.length_cons, List.length_nil]; omega)]
      refine congrArg some (ba_ext ?_)
      rw [app_list, dd_big h3]
      simp
theorem num_ev (n : Int) (h0 : -9223372036854775808 ≤ n) (h1 : n ≤ 9223372036854775807) : Ev (fun k => spec_l1Num.f k n) (itoaB n) := by
  unfold itoaB Lib.itoa
  by_cases h : n < 0
  · rw [if_pos h]
    have := num_neg n.natAbs n.natAbs (Nat.le_refl _) (by omega) (by omega)
    rwa [show -((n.natAbs : Nat) : Int) = n by omega] at this
  · rw [if_neg h]
    have := num_nat n.toNat n.toNat (Nat.le_refl _) (by omega)
    rwa [show ((n.toNat : Nat) : Int) = n by omega] at this
theorem itoa_eq (n : Int) (h0 : -9223372036854775808 ≤ n) (h1 : n ≤ 9223372036854775807) : strconv_Itoa_103.f n = some (itoaB n) := by
  unfold strconv_Itoa_103.f
  rw [if_pos ⟨h0, h1⟩]; rfl
def winB (a b c d : Int) : ByteArray := itoaB a ++ (⟨#[58]⟩ : ByteArray) ++ itoaB b ++ (⟨#[58]⟩ : ByteArray) ++ itoaB c ++ (⟨#[58]⟩ : ByteArray) ++ itoaB d
theorem winB_join (a b c d : Int) : (⟨(Lib.join ([itoaB a, itoaB b, itoaB c, itoaB d].map (·.data.toList)) [58]).toArray⟩ : ByteArray) = winB a b c d := by
  apply ba_ext
  rw [join_jt]
  unfold winB
  simp only [app_list, jt]
  simp
theorem rd4 (a b c d : Int) : rd [a, b, c, d] 0 = a ∧ rd [a, b, c, d] 1 = b ∧ rd [a, b, c, d] 2 = c ∧ rd [a, b, c, d] 3 = d := ⟨rfl, rfl, rfl, rfl⟩
theorem win_spec (a b c d : Int) (ha : -9223372036854775808 ≤ a ∧ a ≤ 9223372036854775807) (hb : -9223372036854775808 ≤ b ∧ b ≤ 9223372036854775807) (hc : -9223372036854775808 ≤ c ∧ c ≤ 9223372036854775807) (hd : -9223372036854775808 ≤ d ∧ d ≤ 9223372036854775807) : Ev (fun k => spec_WindowText.f k a b c d) (winB a b c d) := by
  obtain ⟨K0, h0⟩ := num_ev a ha.1 ha.2
  obtain ⟨K1, h1⟩ := num_ev b hb.1 hb.2
  obtain ⟨K2, h2⟩ := num_ev c hc.1 hc.2
  obtain ⟨K3, h3⟩ := num_ev d hd.1 hd.2
  have s0 := itoaB_size a ha.1 ha.2
  have s1 := itoaB_size b hb.1 hb.2
  have s2 := itoaB_size c hc.1 hc.2
  have s3 := itoaB_size d hd.1 hd.2
  refine ⟨K0 + K1 + K2 + K3, fun k hk => ?_⟩
  have e0 := h0 k (by omega)
  have e1 := h1 k (by omega)
  have e2 := h2 k (by omega)
  have e3 := h3 k (by omega)
  have z : (⟨#[58]⟩ : ByteArray).size = 1 := rfl
  dsimp only at e0 e1 e2 e3 ⊢
  rw [spec_WindowText.f, e0, Option.bind_some, if_pos (by omega), e1, Option.bind_some, if_pos (by simp only [app_size, z]; omega), if_pos (by simp only [app_size, z]; omega), e2, Option.bind_some, if_pos (by simp only [app_size, z]; omega), if_pos (by simp only [app_size, z]; omega), e3, Option.bind_some, if_pos (by simp only [app_size, z]; omega)]
  rfl
theorem win_impl (a b c d : Int) (ha : -9223372036854775808 ≤ a ∧ a ≤ 9223372036854775807) (hb : -9223372036854775808 ≤ b ∧ b ≤ 9223372036854775807) (hc : -9223372036854775808 ≤ c ∧ c ≤ 9223372036854775807) (hd : -9223372036854775808 ≤ d ∧ d ≤ 9223372036854775807) (k : Nat) : impl_WindowText.f (k + 5) a b c d = some (winB a b c d) := by
  have s0 := itoaB_size a ha.1 ha.2
  have s1 := itoaB_size b hb.1 hb.2
  have s2 := itoaB_size c hc.1 hc.2
  have s3 := itoaB_size d hd.1 hd.2
  have hj := winB_join a b c d
  have hz : (winB a b c d).size ≤ 100 := by
    unfold winB
    have z : (⟨#[58]⟩ : ByteArray).size = 1 := rfl
    simp only [app_size, z]; omega
  have hl : (Lib.join ([itoaB a, itoaB b, itoaB c, itoaB d].map (·.data.toList)) [58]).length ≤ 140737488355328 := by
    have := congrArg ByteArray.size hj
    rw [size_list] at this
    have h2 : ((⟨(Lib.join ([itoaB a, itoaB b, itoaB c, itoaB d].map (·.data.toList)) [58]).toArray⟩ : ByteArray).data.toList).length = (Lib.join ([itoaB a, itoaB b, itoaB c, itoaB d].map (·.data.toList)) [58]).length := rfl
    omega
  have w1 : wrap64 (0 + 1) = 1 := (wrap_in (x := 0 + 1) (by omega) (by omega)).trans rfl
  have w2 : wrap64 (1 + 1) = 2 := (wrap_in (x := 1 + 1) (by omega) (by omega)).trans rfl
  have w3 : wrap64 (2 + 1) = 3 := (wrap_in (x := 2 + 1) (by omega) (by omega)).trans rfl
  have w4 : wrap64 (3 + 1) = 4 := (wrap_in (x := 3 + 1) (by omega) (by omega)).trans rfl
  obtain ⟨r0, r1, r2, r3⟩ := rd4 a b c d
  have L : (([a, b, c, d] : List Int).length : Int) = 4 := rfl
  rw [impl_WindowText.f, Option.bind_some, L]
  rw [impl_WindowText.l0, if_pos (by omega), if_pos (by omega), if_pos (by rw [L]; omega), r0, itoa_eq a ha.1 ha.2, Option.bind_some, if_pos (by decide), w1, List.nil_append]
  rw [impl_WindowText.l0, if_pos (by omega), if_pos (by omega), if_pos (by rw [L]; omega), r1, itoa_eq b hb.1 hb.2, Option.bind_some, if_pos (by simp), w2]
  rw [impl_WindowText.l0, if_pos (by omega), if_pos (by omega), if_pos (by rw [L]; omega), r2, itoa_eq c hc.1 hc.2, Option.bind_some, if_pos (by simp), w3]
  rw [impl_WindowText.l0, if_pos (by omega), if_pos (by omega), if_pos (by rw [L]; omega), r3, itoa_eq d hd.1 hd.2, Option.bind_some, if_pos (by simp), w4]
  rw [impl_WindowText.l0, if_neg (by omega)]
  unfold strings_Join.f
  rw [if_pos ⟨by simp, hl⟩, Option.bind_some]
  exact congrArg some hj
def wholeR (g : List (List Int)) (a : Int) : Int × Int × Int × Int × Bool := if memOk g = true then (if inB a 0 ((g.length : Int) - 1) = true then (a, 0, ((rd_L1 g a).length : Int), ((rd_L1 g a).length : Int), true) else (0, 0, 0, 0, false)) else (0, 0, 0, 0, false)
theorem whole_i (g : List (List Int)) (hg : g.length ≤ 100) (a : Int) : Ev (fun k => impl_WholeWindow.f k g a) (wholeR g a) := by
  obtain ⟨K, hK⟩ := isMem g (by omega)
  refine ⟨K, fun k hk => ?_⟩
  have e1 := hK k hk
  dsimp only at e1 ⊢
  rw [impl_WholeWindow.f, e1, Option.bind_some, hasArr g (by omega), Option.bind_some]
  unfold wholeR
  cases memOk g with
  | false => rfl
  | true =>
    rw [if_pos rfl, if_pos rfl]
    by_cases h : inB a 0 ((g.length : Int) - 1) = true
    · have h2 := h
      unfold inB at h2
      rw [decide_eq_true_eq] at h2
      rw [if_pos h, if_pos h, if_pos h2.1, if_pos (by omega)]
    · rw [if_neg h, if_neg h]
theorem whole_s (g : List (List Int)) (hg : g.length ≤ 100) (a : Int) : Ev (fun k => spec_WholeWindow.f k g a) (wholeR g a) := by
  obtain ⟨K, hK⟩ := l2Mem g (by omega)
  refine ⟨K, fun k hk => ?_⟩
  have e1 := hK k hk
  dsimp only at e1 ⊢
  rw [spec_WholeWindow.f, e1, Option.bind_some, wrap_in (x := (g.length : Int) - 1) (by omega) (by omega), l1In_eq, Option.bind_some]
  unfold wholeR
  cases memOk g with
  | false => rfl
  | true =>
    rw [if_pos rfl, if_pos rfl]
    by_cases h : inB a 0 ((g.length : Int) - 1) = true
    · have h2 := h
      unfold inB at h2
      rw [decide_eq_true_eq] at h2
      rw [if_pos h, if_pos h, if_pos h2.1, if_pos (by omega)]
    · rw [if_neg h, if_neg h]
theorem rB_refl (l : List Int) : laws_rBytes.f l l = some true := by simp [laws_rBytes.f]
theorem inB_iff {a b c : Int} : inB a b c = true ↔ b ≤ a ∧ a ≤ c := by unfold inB; exact decide_eq_true_iff
theorem wB_on {m : List (List Int)} {a s l c : Int} (h1 : memOk m = true) (h2 : winOn m a s l c = true) : windowBytesR m a s l c = (seen m a s l, true) := by unfold windowBytesR; rw [if_pos h1, if_pos h2]
theorem wB_2 (m : List (List Int)) (a s l c : Int) : (windowBytesR m a s l c).2 = (memOk m && winOn m a s l c) := by
  unfold windowBytesR
  cases memOk m <;> cases winOn m a s l c <;> rfl
theorem isW_i (m : List (List Int)) (hm : Fit m) (a s l c : Int) : Ev (fun k => impl_IsWindow.f k m a s l c) (memOk m && winOn m a s l c, memOk m) := by
  obtain ⟨K, hK⟩ := isMem m hm.1
  refine ⟨K, fun k hk => ?_⟩
  have e1 := hK k hk
  dsimp only at e1 ⊢
  rw [impl_IsWindow.f, e1, Option.bind_some, hasWin m hm, Option.bind_some]
  cases memOk m <;> rfl
theorem isW_s (m : List (List Int)) (hm : Fit m) (a s l c : Int) (hs : -9223372036854775808 ≤ s ∧ s ≤ 9223372036854775807) : Ev (fun k => spec_IsWindow.f k m a s l c) (memOk m && winOn m a s l c, memOk m) := by
  obtain ⟨K, hK⟩ := l2Mem m hm.1
  obtain ⟨K2, h2⟩ := l2Win m hm a s l c hs
  refine ⟨K + K2, fun k hk => ?_⟩
  have e1 := hK k (by omega)
  have e2 := h2 k (by omega)
  dsimp only at e1 e2 ⊢
  rw [spec_IsWindow.f, e1, Option.bind_some, e2, Option.bind_some]
  cases memOk m <;> rfl
theorem FnSlices_ok : FnSlicesTrue := by
  intro A0 c0 l w hr hc0 hl HTA
  have hc : IsCode l := fun x hx => by
    have := hl.2 x hx
    exact wfu8 this
  by_cases hbig : (l.length : Int) > 65536
  · exact laws_FnSlices.big A0 c0 l w hr hc0 (by unfold laws_rBig.f; rw [decide_eq_true hbig])
  · obtain ⟨m, s0, s1, s2, s3, i, j, q, ⟨K1, e1⟩, hm1, hm2, b0, b1, b2, b3⟩ := draw3_ok hc
    obtain ⟨g, a, ⟨K2, e2⟩, hg1, hg2⟩ := drawW_ok hc
    have hm := hm2.fit (by omega)
    have hg := hg2.fit (by omega)
    unfold BW at b0 b1 b2 b3
    obtain ⟨K3, e3⟩ := impl_slice3 m hm s0 s1 s2 s3 i j q
    obtain ⟨K4, e4⟩ := spec_slice3 m hm s0 s1 s2 s3 i j q (by omega)
    obtain ⟨K5, e5⟩ := impl_slice3 m hm s0 s1 s2 s3 i j s3
    obtain ⟨K6, e6⟩ := spec_slice3 m hm s0 s1 s2 s3 i j s3 (by omega)
    obtain ⟨K7, e7⟩ := impl_slice3 m hm s0 s1 s2 s3 0 s2 s2
    obtain ⟨K8, e8⟩ := spec_slice3 m hm s0 s1 s2 s3 0 s2 s2 (by omega)
    obtain ⟨K9, e9⟩ := isW_i m hm s0 s1 s2 s3
    obtain ⟨K10, e10⟩ := isW_s m hm s0 s1 s2 s3 (by omega)
    obtain ⟨K11, e11⟩ := isMem m hm.1
    obtain ⟨K12, e12⟩ := windowBytes_impl m hm s0 s1 s2 s3
    obtain ⟨K13, e13⟩ := windowBytes_spec m hm s0 s1 s2 s3 (by omega)
    obtain ⟨K16, e16⟩ := whole_i g (by omega) a
    obtain ⟨K17, e17⟩ := whole_s g (by omega) a
    have e18 := win_impl s0 s1 s2 s3 (by omega) (by omega) (by omega) (by omega)
    obtain ⟨K19, e19⟩ := win_spec s0 s1 s2 s3 (by omega) (by omega) (by omega) (by omega)
    have h22 : (slice3 m s0 s1 s2 s3 i j q).2.2.2.2 = true → (slice3 m s0 s1 s2 s3 i j s3).2.2.2.2 = true ∧ (slice3 m s0 s1 s2 s3 i j s3).2.2.1 = (slice3 m s0 s1 s2 s3 i j q).2.2.1 := by
      unfold slice3
      intro h
      split at h
      · rename_i h1
        simp only [Bool.and_eq_true, inB_iff] at h1
        have h2 : ((memOk m && winOn m s0 s1 s2 s3) && (inB s3 0 s3 && (inB j 0 s3 && inB i 0 j))) = true := by
          simp only [Bool.and_eq_true, inB_iff]
          obtain ⟨h3, h4, h5, h6⟩ := h1
          exact ⟨h3, by omega, by omega, h6⟩
        rw [if_pos h2, if_pos (by simp only [Bool.and_eq_true, inB_iff]; exact h1)]
        exact ⟨rfl, rfl⟩
      · cases h
    have h4 : (slice3 m s0 s1 s2 s3 0 s2 s2).2.2.2.2 = (memOk m && winOn m s0 s1 s2 s3) := by
      unfold slice3
      by_cases h : (memOk m && winOn m s0 s1 s2 s3) = true
      · have h' := h
        rw [Bool.and_eq_true, winOn_iff] at h'
        rw [if_pos (by rw [h]; simp only [Bool.and_eq_true, inB_iff]; exact ⟨trivial, by omega, by omega, by omega⟩), h]
      · have h0 : (memOk m && winOn m s0 s1 s2 s3) = false := by simpa using h
        rw [h0]
        rfl
    have h23 : (slice3 m s0 s1 s2 s3 0 s2 s2).2.2.2.2 = true → (slice3 m s0 s1 s2 s3 0 s2 s2).2.2.1 = s2 ∧ (slice3 m s0 s1 s2 s3 0 s2 s2).2.2.2.1 = s2 := by
      have hw : wrap64 (s2 - 0) = s2 := by unfold wrap64; omega
      unfold slice3
      intro h
      split at h
      · rename_i h1
        rw [if_pos h1, hw]
        exact ⟨rfl, rfl⟩
      · cases h
    have h20 : (wholeR g a).2.2.2.2 = true → memOk g = true ∧ 0 ≤ a ∧ a < (g.length : Int) ∧ wholeR g a = (a, 0, ((rd_L1 g a).length : Int), ((rd_L1 g a).length : Int), true) := by
      unfold wholeR
      intro h
      split at h
      · rename_i h1
        split at h
        · rename_i h2
          have h3 := inB_iff.1 h2
          rw [if_pos h1, if_pos h2]
          exact ⟨h1, h3.1, by omega, rfl⟩
        · cases h
      · cases h
    have h21 : (slice3 m s0 s1 s2 s3 i j s3).2.2.2.2 = true → memOk m = true ∧ winOn m s0 s1 s2 s3 = true ∧ 0 ≤ i ∧ i ≤ j ∧ j ≤ s3 ∧ slice3 m s0 s1 s2 s3 i j s3 = (s0, s1 + i, j - i, s3 - i, true) := by
      unfold slice3
      intro h
      split at h
      · rename_i h1
        have h2 := h1
        simp only [Bool.and_eq_true, inB_iff] at h2
        obtain ⟨⟨h3, h4⟩, h5, h6, h7⟩ := h2
        have h8 := winOn_iff.1 h4
        rw [if_pos h1, wrap_in (x := s1 + i) (by omega) (by omega), wrap_in (x := j - i) (by omega) (by omega), wrap_in (x := s3 - i) (by omega) (by omega)]
        exact ⟨h3, h4, h7.1, h7.2, h6.2, rfl⟩
      · cases h
    obtain ⟨K20, h25⟩ : ∃ K, (wholeR g a).2.2.2.2 = true → ∀ k, K ≤ k → ∃ al, impl_WindowBytes.f k g (wholeR g a).1 (wholeR g a).2.1 (wholeR g a).2.2.1 (wholeR g a).2.2.2.1 = some (al, true) ∧ 0 ≤ a ∧ a < (g.length : Int) ∧ laws_rBytes.f al (rd_L1 g a) = some true := by
      by_cases h : (wholeR g a).2.2.2.2 = true
      · obtain ⟨h1, h2, h3, h5⟩ := h20 h
        rw [h5]
        dsimp only
        obtain ⟨K, hK⟩ := windowBytes_impl g hg a 0 ((rd_L1 g a).length : Int) ((rd_L1 g a).length : Int)
        have hlen : (rd_L1 g a).length ≤ 64 := by
          have := (memOk_each h1 _ (show rd_L1 g a ∈ g from by unfold rd_L1; exact getD_mem g [] a.toNat (by omega))).2
          omega
        have hon : winOn g a 0 ((rd_L1 g a).length : Int) ((rd_L1 g a).length : Int) = true := by
          rw [winOn_iff]
          have : (rd_L1 g a).length = (g.getD a.toNat []).length := rfl
          omega
        rw [wB_on h1 hon] at hK
        refine ⟨K, fun _ k hk => ⟨_, hK k hk, h2, h3, ?_⟩⟩
        have hs : seen g a 0 ((rd_L1 g a).length : Int) = rd_L1 g a := by
          unfold seen rd_L1
          rw [Int.toNat_natCast, show (0 : Int).toNat = 0 from rfl, List.drop_zero, List.take_length]
        rw [hs]
        exact rB_refl _
      · exact ⟨0, fun h' => absurd h' h⟩
    obtain ⟨K21, h26⟩ : ∃ K, (slice3 m s0 s1 s2 s3 i j s3).2.2.2.2 = true → ∀ k, K ≤ k → ∃ sm, impl_WindowBytes.f k m (slice3 m s0 s1 s2 s3 i j s3).1 (slice3 m s0 s1 s2 s3 i j s3).2.1 (slice3 m s0 s1 s2 s3 i j s3).2.2.1 (slice3 m s0 s1 s2 s3 i j s3).2.2.2.1 = some (sm, true) ∧ (sm.length : Int) = wrap64 (j - i) ∧ (slice3 m s0 s1 s2 s3 i j s3).2.2.2.1 = wrap64 (s3 - i) ∧ ((slice3 m s0 s1 s2 s3 i j q).2.2.2.2 = true → (slice3 m s0 s1 s2 s3 i j s3).2.2.1 = (slice3 m s0 s1 s2 s3 i j q).2.2.1) ∧ sm.length ≤ 1000000 ∧ ∀ n : Nat, n < sm.length → wrap64 (i + n) < ((windowBytesR m s0 s1 s2 s3).1.length : Int) → 0 ≤ wrap64 (i + n) ∧ rd sm (n : Int) = rd (windowBytesR m s0 s1 s2 s3).1 (wrap64 (i + n)) := by
      by_cases h : (slice3 m s0 s1 s2 s3 i j s3).2.2.2.2 = true
      · obtain ⟨h1, h2, h3, h5, h6, h7⟩ := h21 h
        have h8 := winOn_iff.1 h2
        have h9 : ∀ h', (slice3 m s0 s1 s2 s3 i j s3).2.2.1 = (slice3 m s0 s1 s2 s3 i j q).2.2.1 := fun h' => (h22 h').2
        rw [h7] at h9 ⊢
        dsimp only at h9 ⊢
        have hon : winOn m s0 (s1 + i) (j - i) (s3 - i) = true := by rw [winOn_iff]; omega
        obtain ⟨K, hK⟩ := windowBytes_impl m hm s0 (s1 + i) (j - i) (s3 - i)
        rw [wB_on h1 hon] at hK
        have hlen := seen_len h1 hon
        have hlen2 := seen_len h1 h2
        refine ⟨K, fun _ k hk => ⟨_, hK k hk, by rw [wrap_in (x := j - i) (by omega) (by omega)]; exact hlen, by rw [wrap_in (x := s3 - i) (by omega) (by omega)], h9, by omega, fun n hn hx => ?_⟩⟩
        rw [wB_on h1 h2] at hx ⊢
        dsimp only at hx ⊢
        rw [wrap_in (x := i + (n : Int)) (by omega) (by omega)] at hx ⊢
        refine ⟨by omega, ?_⟩
        rw [seen_rd (by omega) (by omega) (by omega), seen_rd (by omega) (by omega) (by omega), show s1 + i + (n : Int) = s1 + (i + (n : Int)) by omega]
      · exact ⟨0, fun h' => absurd h' h⟩
    have hw2 := wB_2 m s0 s1 s2 s3
    generalize windowBytesR m s0 s1 s2 s3 = WB at *
    generalize slice3 m s0 s1 s2 s3 i j q = R3 at *
    generalize slice3 m s0 s1 s2 s3 i j s3 = R2 at *
    generalize slice3 m s0 s1 s2 s3 0 s2 s2 = RC at *
    generalize wholeR g a = RW at *
    obtain ⟨t0, t1, t2, t3, ok⟩ := R3
    obtain ⟨y0, y1, y2, y3, one⟩ := R2
    obtain ⟨d0, d1, d2, d3, four⟩ := RC
    obtain ⟨x0, x1, x2, x3, seven⟩ := RW
    obtain ⟨lst, six⟩ := WB
    dsimp only at *
    obtain rfl : six = four := hw2.trans h4.symm
    obtain ⟨K, hK⟩ : ∃ K, K = K1 + K2 + K3 + K4 + K5 + K6 + K7 + K8 + K9 + K10 + K11 + K12 + K13 + K16 + K17 + K19 + K20 + K21 + 5 := ⟨_, rfl⟩
    have e18' : impl_WindowText.f K s0 s1 s2 s3 = some (winB s0 s1 s2 s3) := by
      have := e18 (K - 5)
      rwa [show K - 5 + 5 = K by omega] at this
    exact laws_FnSlices.walk K A0 c0 l m s0 s1 s2 s3 i j q t0 t1 t2 t3 ok y0 y1 y2 y3 one d0 d1 d2 d3 six (memOk m && winOn m s0 s1 s2 s3) (memOk m) lst g a x0 x1 x2 x3 seven (winB s0 s1 s2 s3) w hr hc0
      (by unfold laws_rBig.f; rw [decide_eq_false hbig]) (e1 K (by omega)) (e3 K (by omega)) (e4 K (by omega))
      (by rw [impl_SliceTwo.f, e5 K (by omega)]; rfl) (by rw [spec_SliceTwo.f, e6 K (by omega)]; rfl)
      (by rw [impl_ClipWindow.f, e7 K (by omega)]; rfl) (by rw [spec_ClipWindow.f, e8 K (by omega)]; rfl)
      (e9 K (by omega)) (e10 K (by omega)) (e11 K (by omega)) (e12 K (by omega)) (e13 K (by omega)) (rB_refl _) (e2 K (by omega)) (e16 K (by omega)) (e17 K (by omega)) e18' (e19 K (by omega))
      (fun h => h25 h K (by omega)) (fun h => h26 h K (by omega)) (fun h => (h22 h).1) h23 (by rw [h4]; cases memOk m <;> rfl) HTA
end Go.Proofs.YthnchjgffocigaaDoor.P
end
section
namespace Go.Proofs.YthnchjgffocigaaDoor.fnSlices
open Go.ChangeShapes Go.WideShapes Go.ChangeAt Go.RowKit Go.Proofs.YthnchjgffocigaaDoor.P Go.Proofs.YthnchjgffocigaaDoorW.PrintWords Go.Proofs.YthnchjgffocigaaDoorW.PrintLast Go.Proofs.YthnchjgffocigaaDoorW.PrintMore
open Go.ChangeMaps (open_string shut_string)
set_option linter.unusedVariables false
set_option linter.unusedSimpArgs false
theorem own : ownKnob Tryd.prog.godebug = none := by kernel_rfl
theorem laidOut : laidOutB Tryd.prog = true := by kernel_rfl
theorem door_met (os : Os) (args : Array Value) : laidMetH Tryd.prog Rows.fnSlicesRow.laid ((World.doorLaid Tryd.prog 24 os).forCall (fun _ _ => 0) ⟨#[], args, []⟩).memory :=
  laidMetH_of_parts3 (fuel := 8) (laidMet_of_run' 8 (by kernel_rfl) (by kernel_rfl)) (by kernel_rfl) (by kernel_rfl)
set_option maxRecDepth 100000 in
theorem lifted (os : Os) (started : os.Started) (H : Type) (enc : TypeId × Value → H) :
    ReturnsInHanded {} Tryd.checked os 5 .any (fun w args => (Rows.fnSlicesSpec.pre enc Tryd.prog Tryd.f5 Rows.fnSlicesRow.domain false w args ∧ laidMetH Tryd.prog Rows.fnSlicesRow.laid w) ∧ sizedMet enc Tryd.prog Tryd.f5 (OpenSpec.ofChange Rows.fnSlicesSpec) false w args) (Rows.fnSlicesSpec.post enc Tryd.prog Tryd.f5 false true false false) := by
  refine returns_laid_shaped (C := Tryd.checked) (X := fun w _ => laidMetH Tryd.prog Rows.fnSlicesRow.laid w) (fun _ _ _ hh h => h.of_heap hh) own started (by kernel_rfl) Tryd.func5
    (ChangeSpec.witness_shaped (enc := enc) (C := Tryd.checked) (os := os) (X := fun w _ => laidMetH Tryd.prog Rows.fnSlicesRow.laid w) false (World.doorLaid Tryd.prog 24 os) #[.slice none 0 0] 8 rfl (World.shaped_of_RefB (by kernel_rfl) (by kernel_rfl)) (by kernel_rfl) (by kernel_rfl) (by kernel_rfl) (door_met os _)) ?_
  intro W base args ds gs before hval0 hW hcnd hsz0 hL hS _
  rw [MakeChecks.laidMetH_plain _ _ _ (by kernel_rfl)] at hL
  have HTA : Aside0 (TabA W) := ⟨tabA_of hL.tail.tail⟩
  clear hL hS
  have hval : ∀ (j : Nat) t v, Tryd.f5.params[j]? = some t → args[j]? = some v → Value.okWide Tryd.prog W .any base t v := hval0
  have hW' := hW
  obtain ⟨p, q, hA0, hV, rfl, hfz, hnd⟩ := hW
  have hA : DataW.TrodAll enc Tryd.prog W 0 (fun _ => true) true Tryd.f5.params.toList args.toList ds p := hA0
  rw [Tryd.params5] at hA hval
  obtain ⟨v0, vs0, d0, ds0, p0, q0, hargs, rfl, rfl, h0, r0⟩ := trodAll_cons hA
  obtain ⟨rfl, rfl, rfl⟩ := trodAll_nil r0
  obtain rfl : args = #[v0] := by cases args; simp_all
  obtain ⟨rfl, rfl⟩ := trodVars_none hV
  have k0_ := h0
  have lt0 : ∀ x ∈ p0, x.block < W.heap.size := by obtain ⟨m, hm⟩ := k0_; exact DataW.trod_lt m _ _ _ hm
  obtain ⟨nn0, h0_0⟩ := h0
  obtain ⟨A_, n_, c_, rfl⟩ := okWide_slice Tryd.underlying22 (hval 0 22 v0 rfl rfl)
  obtain ⟨l0, hk0, w0⟩ := opn_slice (d := (Kd.int .u8)) (Q := (fun x => (Lit.int .u8 x).wf = true)) Tryd.underlying22 (by kernel_rfl) (fun _ _ _ h => opn_int Tryd.underlying5 h) h0_0
  obtain ⟨A0, c0, e0, hc0, hr0⟩ := hk0
  simp only [Value.cells, List.cons.injEq, and_true, Array.toList] at e0
  simp only [Value.slice.injEq] at e0
  obtain ⟨rfl, rfl, rfl⟩ := e0
  clear hA0 hval0 hsz0
  refine (FnSlices_ok _ _ l0 W hr0 hc0 w0 HTA).mono fun e W' ⟨he, bel0⟩ => ?_
  have bel : Below W.heap.size W W' := by first | exact bel0 | exact bel0.below
  subst he
  exact ⟨_, rfl, _, _, _, [], _, [], hW', trodAll_mk1 (shut_bool Tryd.underlying4 _), (trodAll_cons_mk (Below.trod laidOut (by kernel_rfl) (of_decide_eq_true (by kernel_rfl)) k0_ bel lt0) trodAll_mk0), rfl, bel.frame _, fun h => by cases h⟩
theorem over : Rows.fnSlicesRow.holds Tryd.pinned (OpenSpec.ofChange Rows.fnSlicesSpec) :=
  OpenClaim.holds_of_wide 5 Tryd.f5 rfl rfl rfl rfl rfl rfl rfl ⟨rfl, rfl, rfl, rfl, rfl⟩ rfl rfl rfl rfl rfl (by kernel_rfl) Tryd.func5 (by kernel_rfl)
    (of_decide_eq_true (by kernel_rfl)) (by unfold Func.isWrapper; first | (rw [if_pos (by decide +kernel)]; kernel_rfl) | (rw [if_neg (by decide +kernel)]; exact ⟨rfl, rfl⟩))
    (fun os started H enc _ => lifted os started H enc)
theorem proved : Rows.FnSlicesSaid := over
#print axioms proved
end Go.Proofs.YthnchjgffocigaaDoor.fnSlices
namespace Go.Proofs.YthnchjgffocigaaDoor
theorem fnSlices_holds : Rows.FnSlicesCardSaid :=
  Claim7.holds_tied_plain_at .later [] [.data, .data, .data] true (true, "0286eec5d63251e4d9c124edb7c430d0f58ca461609789ebc4f4d0c7a50c3b0b") false
    fnSlices.proved (fun _ h => by cases h) (by kernel_rfl) (fun _ h => by cases h) fnSlices_row_tie rfl ⟨rfl, rfl⟩ (by kernel_rfl) rfl
    (fun f fn hf hfn => by
      obtain rfl : f = 5 := Option.some.inj ((show Tryd.prog.funcNamed "loop.example/g01179/laws.FnSlices" = some 5 by kernel_rfl).symm.trans hf) |>.symm
      obtain rfl : fn = Tryd.f5 := (Option.some.inj (Tryd.func5.symm.trans hfn)).symm
      exact ⟨by kernel_rfl, fun j t ht => by
        rw [Tryd.params5] at ht
        have hm : t ∈ [22] := by simpa using Array.mem_of_getElem? ht
        have hall : ([22].all fun u => !Tryd.prog.wantsStandIn u) = true := by kernel_rfl
        exact (show Tryd.prog.wantsStandIn t = false by simpa using List.all_eq_true.1 hall t hm)⟩)
    (by kernel_rfl)
#print axioms fnSlices_holds
end Go.Proofs.YthnchjgffocigaaDoor
end
