/-
AddrBack: what the law function answers. Plain law. No condition.
AddrBack: whatever address is handed in, the law function returns true, and the address reads as before. The row, and its tied card. Condition: the listed variables of the library hold what their initialisers lay (the card ties it to the program's text).
-/
import Derived.Test.YtaekcldkfkiekaaDoorLBytes
import Derived.Test.YtaekcldkfkiekaaDoorQ39
import Derived.Test.YtaekcldkfkiekaaDoorTie
import Derived.Test.YtaekcldkfkiekaaDoorCards
import Derived.Test.YtaekcldkfkiekaaDoorLRow
import Derived.Lib.SmallJoins
import Derived.SevenTiedAt

namespace Go.Proofs.YtaekcldkfkiekaaDoor
open Go.RowKit Go.Proofs.YtaekcldkfkiekaaDoorW.PrintWords Go.Proofs.YtaekcldkfkiekaaDoorW.PrintLast Go.Proofs.YtaekcldkfkiekaaDoorW.PrintMore

theorem ofL_nil_iff (l : List UInt8) : (ofL l).toList = [] ↔ l = [] := by
  rw [ByteArray.toList_eq]
  show (ofL l).data.toList = [] ↔ _
  rw [ofL_data]

theorem valid_iff (six : Bool) (hi lo : Int) : (six || (hi == 0 && decide (lo < 4294967296))) = true ↔ (six = true ∨ hi = 0 ∧ lo < 4294967296) := by
  simp

theorem back_f (six : Bool) (hi lo : Int) (h0 : 0 ≤ hi) (h1 : hi < 18446744073709551616) (l0 : 0 ≤ lo) (l1 : lo < 18446744073709551616) :
    Q.crosswaylaw03_AddrBack.f 200 six hi lo = some true := by
  unfold Q.crosswaylaw03_AddrBack.f crosswaylaw03_awake.f addr_Print.f
  rw [if_pos ⟨h0, h1, l0, l1⟩, bytes_f six hi lo 200 (by omega), valid_val]
  simp only [Option.bind_some, if_true]
  by_cases hv : six = true ∨ hi = 0 ∧ lo < 4294967296
  · rw [(valid_iff six hi lo).2 hv, if_pos rfl]
    have hs := txt_len six hi lo
    rw [parse_f _ (by omega) 200 (by omega), ofL_data, parse_print six hi lo h0 h1 l0 l1 hv]
    obtain ⟨ho, hl⟩ := of_bytes six hi lo h0 h1 l0 l1 hv 200 (by omega)
    rw [ho]
    simp only [parseRes, Option.bind_some, if_true, BEq.rfl, Bool.and_self, hl]
  · have hf : (six || (hi == 0 && decide (lo < 4294967296))) = false := by
      cases h : (six || (hi == 0 && decide (lo < 4294967296))) with
      | false => rfl
      | true => exact absurd ((valid_iff six hi lo).1 h) hv
    have hs : six = false := by cases six with
      | false => rfl
      | true => exact absurd (Or.inl rfl) hv
    subst hs
    have hn : ¬ (hi = 0 ∧ lo < 4294967296) := fun h => hv (Or.inr h)
    have e1 : printP false hi lo = [] := by unfold printP; rw [if_neg (by simp), if_neg hn]
    have e2 : bytesP false hi lo = [] := by unfold bytesP; rw [if_neg (by simp), if_neg hn]
    rw [hf, if_neg (by simp), e1, e2, if_pos ((ofL_nil_iff []).2 rfl)]
    rfl

theorem back_walk (six : Bool) (hi lo : Int) (h0 : 0 ≤ hi) (h1 : hi < 18446744073709551616) (l0 : 0 ≤ lo) (l1 : lo < 18446744073709551616) (w : World) (hG : GV w) :
    Calls Tryd.prog 5 #[.agg #[.bool six, .int .u64 hi, .int .u64 lo]] w fun e w' => e = .returned (.bool true) ∧ Below w.heap.size w w' :=
  Q.crosswaylaw03_AddrBack.calls 200 six hi lo true w (back_f six hi lo h0 h1 l0 l1) hG
end Go.Proofs.YtaekcldkfkiekaaDoor

namespace Go.Proofs.YtaekcldkfkiekaaDoor
open Go.ChangeShapes Go.WideShapes Go.ChangeAt Go.RowKit

theorem u64_wf {a : Int} (h : (Lit.int .u64 a).wf = true) : 0 ≤ a ∧ a < 18446744073709551616 := by
  have h2 : 0 ≤ a ∧ a ≤ 18446744073709551615 := by simpa [Lit.wf, IntKind.min, IntKind.max, IntKind.signed, IntKind.bits] using h
  omega

set_option maxRecDepth 100000 in
theorem back_lifted (os : Os) (started : os.Started) (H : Type) (enc : TypeId × Value → H) :
    ReturnsInHanded {} Tryd.checked os 5 .any (fun w args => (Rows.addrBackSpec.pre enc Tryd.prog Tryd.f5 [] false w args ∧ laidMetH Tryd.prog laidL w) ∧ sizedMet enc Tryd.prog Tryd.f5 (OpenSpec.ofChange Rows.addrBackSpec) false w args)
      (Rows.addrBackSpec.post enc Tryd.prog Tryd.f5 false true false false) := by
  refine wrap_laid (C := Tryd.checked) (X := fun w _ => laidMetH Tryd.prog laidL w) (fun _ _ _ hh h => h.of_heap hh) own started (by kernel_rfl) Tryd.func5
    (ChangeSpec.witness_shaped (enc := enc) (C := Tryd.checked) (os := os) (X := fun w _ => laidMetH Tryd.prog laidL w) false (World.laidAll Tryd.prog os laidL) #[.agg #[.bool false, .int .u64 0, .int .u64 0]] 8 (World.laidAll_os _ _ _)
      (World.shaped_of_ZipB (by kernel_rfl) (by kernel_rfl)) (by kernel_rfl) (by kernel_rfl) (by kernel_rfl)
      (by rw [MakeChecks.laidMetH_plain _ _ _ (by kernel_rfl)]; exact laidMet_laidAll _ (by kernel_rfl) (by kernel_rfl))) ?_
  intro W base args ds gs before hval0 hW _ hsh hL
  have hval : ∀ (j : Nat) t v, Tryd.f5.params[j]? = some t → args[j]? = some v → Value.okWide Tryd.prog W .any base t v := hval0
  have hG := gv_of_laid hL hsh
  have hW' := hW
  obtain ⟨p, q, hA0, hV, rfl, _, _⟩ := hW
  have hA : DataW.TrodAll enc Tryd.prog W 0 (fun _ => true) true Tryd.f5.params.toList args.toList ds p := hA0
  rw [Tryd.params5] at hA hval
  obtain ⟨v0, d0, rfl, rfl, h0⟩ := trodAll_one hA
  obtain ⟨rfl, rfl⟩ := trodVars_none hV
  have c25 : Tryd.prog.cellsOf 25 = 3 := by kernel_rfl
  obtain ⟨c0, c1, c2, y0, y1, y2, m, rfl, rfl, rfl, hy0, hy1, hy2⟩ := Joins.open_agg3 Tryd.underlying25 (by kernel_rfl) c25 (hval 0 25 v0 rfl rfl) h0
  obtain ⟨a, e0, rfl⟩ := DataW.trod_bool Tryd.underlying4 hy0
  obtain ⟨b, e1, rfl, wb⟩ := DataW.trod_int Tryd.underlying23 hy1
  obtain ⟨c, e2, rfl, wc⟩ := DataW.trod_int Tryd.underlying23 hy2
  simp at e0 e1 e2
  subst e0 e1 e2
  simp only [List.append_nil] at hW'
  obtain ⟨b0, b1⟩ := u64_wf wb
  obtain ⟨k0, k1⟩ := u64_wf wc
  refine (back_walk a b c b0 b1 k0 k1 W hG).mono fun e W' ⟨he, bel⟩ => ?_
  subst he
  exact ⟨_, rfl, _, _, _, [], [], [], hW', trodAll_mk1 (shut_bool Tryd.underlying4 _),
    trodAll_mk1 (Joins.shut_agg3 Tryd.underlying25 (by kernel_rfl) c25 (Joins.field_of_Trod (shut_bool Tryd.underlying4 a) rfl) (Joins.field_of_Trod (shut_int Tryd.underlying23 wb) rfl) (Joins.field_of_Trod (shut_int Tryd.underlying23 wc) rfl)), rfl, bel.frame _, fun h => by cases h⟩

theorem back_row : Rows.AddrBackSaid :=
  OpenClaim.holds_of_wide 5 Tryd.f5 rfl rfl rfl rfl rfl rfl rfl ⟨rfl, rfl, rfl, rfl, rfl⟩ rfl rfl rfl rfl rfl (by kernel_rfl) Tryd.func5 (by kernel_rfl)
    (of_decide_eq_true (by kernel_rfl)) (by unfold Func.isWrapper; first | (rw [if_pos (by decide +kernel)]; kernel_rfl) | (rw [if_neg (by decide +kernel)]; exact ⟨rfl, rfl⟩))
    (fun os started H enc _ => back_lifted os started H enc)

theorem addrBack_holds : Rows.AddrBackCardSaid :=
  Claim7.holds_tied_plain_at .later [] [.data, .data, .data, .data, .sentinel, .sentinel, .pinned] true (true, "c93ebde9351cadd70240bd9cb1d3c0fd0a1c943145c7cca455b2dd7a3a0aa2ed") true back_row (fun _ h => by cases h) (by kernel_rfl) (fun _ h => by cases h) addrBack_row_tie rfl ⟨rfl, rfl⟩ (by kernel_rfl) rfl
    (fun f fn hf hfn => by
      obtain rfl : f = 5 := Option.some.inj ((show Tryd.prog.funcNamed "crossway/crosswaylaw03.AddrBack" = some 5 by kernel_rfl).symm.trans hf) |>.symm
      obtain rfl : fn = Tryd.f5 := (Option.some.inj (Tryd.func5.symm.trans hfn)).symm
      exact ⟨by kernel_rfl, fun j t ht => by
        rw [Tryd.params5] at ht
        have hm : t ∈ [25] := by simpa using Array.mem_of_getElem? ht
        have hall : ([25].all fun u => !Tryd.prog.wantsStandIn u) = true := by kernel_rfl
        exact (show Tryd.prog.wantsStandIn t = false by simpa using List.all_eq_true.1 hall t hm)⟩)
    (by kernel_rfl)
#print axioms addrBack_holds
end Go.Proofs.YtaekcldkfkiekaaDoor
