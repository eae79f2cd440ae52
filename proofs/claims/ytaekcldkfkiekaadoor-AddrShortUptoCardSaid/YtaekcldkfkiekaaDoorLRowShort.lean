/-
  AddrShort: whatever text is handed in, the law function returns true. The second form's row, and its tied card. Conditions: the text is of bulk at most 1048576; the listed variables of the library hold what their initialisers lay (the card ties it to the program's text).
-/
import Derived.Test.YtaekcldkfkiekaaDoorTie
import Derived.Test.YtaekcldkfkiekaaDoorCards
import Derived.Test.YtaekcldkfkiekaaDoorLRow
import Derived.Test.YtaekcldkfkiekaaDoorLShort
import Derived.Test.YtaekcldkfkiekaaDoorQ40
import Derived.Deep.DeepHandedRow
import Derived.ShutString
import Derived.SevenTiedAt
namespace Go.Proofs.YtaekcldkfkiekaaDoor
open Go.ChangeShapes Go.WideShapes Go.ChangeAt Go.RowKit
open Go.ChangeMaps (open_string shut_string)

theorem dec_min (n k : Nat) (h : n < 10 ^ k) (h1 : 1 ≤ k) (h3 : k ≤ 3) : (Lib.decDigits n).length ≤ k := by
  have hn : n < 1000 := by
    rcases (by omega : k = 1 ∨ k = 2 ∨ k = 3) with rfl | rfl | rfl <;> omega
  rw [decS_list n hn]
  rcases (by omega : k = 1 ∨ k = 2 ∨ k = 3) with rfl | rfl | rfl
  · rw [if_pos (by omega)]; simp
  · split
    · simp
    · first | simp | (rw [if_pos (by omega)]; simp)
  · split
    · simp
    · split <;> simp

theorem octP_dec_len {p : List UInt8} {n : Nat} (h : octP p = some n) : (Lib.decDigits n).length ≤ p.length ∧ n < 256 := by
  have h255 := octP_le h
  unfold octP at h
  cases hn : numP 10 3 p with
  | none => rw [hn] at h; cases h
  | some m =>
    rw [hn] at h
    simp only at h
    split at h
    · cases h
    · split at h
      · cases h
      · obtain rfl := Option.some.inj h
        obtain ⟨h0, h1, h2⟩ := numP_ne hn
        have hp : 1 ≤ p.length := by
          cases p with
          | nil => exact absurd rfl h0
          | cons _ _ => simp
        have := num_lt 10 p 0 m 0 (by omega) h2
        rw [Nat.zero_add] at this
        exact ⟨dec_min m p.length this hp h1, by omega⟩

theorem oct_parts (a b c d : Nat) (ha : a < 256) (hb : b < 256) (hc : c < 256) (hd : d < 256) :
    octOf ((((a * 256 + b) * 256 + c) * 256 + d : Nat) : Int) 0 = a ∧ octOf ((((a * 256 + b) * 256 + c) * 256 + d : Nat) : Int) 1 = b ∧ octOf ((((a * 256 + b) * 256 + c) * 256 + d : Nat) : Int) 2 = c ∧ octOf ((((a * 256 + b) * 256 + c) * 256 + d : Nat) : Int) 3 = d := by
  have e : ∀ (x j : Nat), (x : Int) / 256 ^ (3 - j) % 256 = ((x / 256 ^ (3 - j) % 256 : Nat) : Int) := fun x j => by
    rw [Int.natCast_emod, Int.natCast_ediv, Int.natCast_pow]
    rfl
  simp only [octOf, e, Int.toNat_natCast]
  refine ⟨?_, ?_, ?_, ?_⟩ <;> simp <;> omega

theorem four_short {l : List UInt8} {v : Nat} (h : fourP l = some v) : v < 4294967296 ∧ (fourTxt v).length ≤ l.length := by
  unfold fourP at h
  split at h
  · rename_i a b c d hm
    obtain rfl := Option.some.inj h
    have hj := join_splitOn 46 l
    cases hs : splitOn 46 l with
    | nil => exact absurd hs (splitOn_ne 46 l)
    | cons p0 r0 =>
      rw [hs] at hm hj
      have hlen := (mapM_all hm).1
      match r0, hlen, hm, hj with
      | [p1, p2, p3], _, hm, hj =>
        simp only [List.mapM_cons, List.mapM_nil, Option.bind_eq_bind, Option.bind_eq_some_iff, Option.pure_def, Option.some.injEq] at hm
        obtain ⟨a', ha, _, ⟨b', hb, _, ⟨c', hc, _, ⟨d', hd, _, rfl, rfl⟩, rfl⟩, rfl⟩, heq⟩ := hm
        simp only [List.cons.injEq, and_true] at heq
        obtain ⟨q1, q2, q3, q4⟩ := heq
        rw [q1] at ha
        rw [q2] at hb
        rw [q3] at hc
        rw [q4] at hd
        obtain ⟨la, ua⟩ := octP_dec_len ha
        obtain ⟨lb, ub⟩ := octP_dec_len hb
        obtain ⟨lc, uc⟩ := octP_dec_len hc
        obtain ⟨ld, ud⟩ := octP_dec_len hd
        obtain ⟨o0, o1, o2, o3⟩ := oct_parts a b c d ua ub uc ud
        refine ⟨by omega, ?_⟩
        unfold fourTxt
        rw [o0, o1, o2, o3]
        have e1 := (join_len_eq 46 [p0, p1, p2, p3]).resolve_right (by simp)
        have e2 := (join_len_eq 46 [Lib.decDigits a, Lib.decDigits b, Lib.decDigits c, Lib.decDigits d]).resolve_right (by simp)
        rw [hj] at e1
        simp only [lensum, List.map_cons, List.map_nil, List.sum_cons, List.sum_nil, List.length_cons, List.length_nil] at e1 e2
        omega
  · cases h

/-- what a text is read as: right, in its bounds, and told at most one byte longer -/
theorem parse_short {l : List UInt8} {six : Bool} {hi lo : Int} (h : parseP l = some (six, hi, lo)) :
    0 ≤ hi ∧ hi < 18446744073709551616 ∧ 0 ≤ lo ∧ lo < 18446744073709551616 ∧ (six = true ∨ hi = 0 ∧ lo < 4294967296) ∧ (printP six hi lo).length ≤ l.length + 1 := by
  unfold parseP at h
  cases hf : fourP l with
  | some v =>
    rw [hf] at h
    simp only [Option.some.injEq, Prod.mk.injEq] at h
    obtain ⟨rfl, rfl, rfl⟩ := h
    obtain ⟨hv, hl⟩ := four_short hf
    refine ⟨by omega, by omega, by omega, by omega, Or.inr ⟨rfl, by omega⟩, ?_⟩
    unfold printP
    rw [if_neg (by simp), if_pos ⟨rfl, by omega⟩]
    omega
  | none =>
    rw [hf] at h
    simp only [Option.map_eq_some_iff] at h
    obtain ⟨g, hg, h⟩ := h
    obtain ⟨h8, hlt, _⟩ := sixP_hex hg
    obtain ⟨hn, ln, hp, hgr, hh, hll⟩ := pack_groups h8 hlt
    rw [hp] at h
    simp only [Prod.mk.injEq] at h
    obtain ⟨rfl, rfl, rfl⟩ := h
    rw [← hgr] at hg
    have := six_short hg
    refine ⟨by omega, by omega, by omega, by omega, Or.inl rfl, ?_⟩
    simpa [printP] using this

theorem short_f (s : ByteArray) (h : s.size < 4294967281) : Q.crosswaylaw03_AddrShort.f (s.size + 200) s = some true := by
  unfold Q.crosswaylaw03_AddrShort.f crosswaylaw03_awake.f
  rw [parse_f s h (s.size + 200) (by omega)]
  simp only [Option.bind_some, if_true]
  cases hp : parseP s.data.toList with
  | none => rfl
  | some r =>
    obtain ⟨six, hi, lo⟩ := r
    obtain ⟨h0, h1, l0, l1, hv, hlen⟩ := parse_short hp
    have hs := txt_len six hi lo
    simp only [parseRes, if_true]
    unfold addr_Print.f
    rw [if_pos ⟨h0, h1, l0, l1⟩]
    simp only [Option.bind_some]
    rw [parse_f _ (by omega) (s.size + 200) (by omega), ofL_data, parse_print six hi lo h0 h1 l0 l1 hv]
    simp only [parseRes, Option.bind_some, if_true, BEq.rfl, Bool.and_self]
    have e : s.data.toList.length = s.size := Array.length_toList
    rw [show (s.size : Int) + 1 = ((s.size + 1 : Nat) : Int) by omega, wrap64_nat (by omega), ofL_size, if_pos (by omega), valid_f]
    exact congrArg some ((by simp : (six || (hi == 0 && decide (lo < 4294967296))) = true ↔ (six = true ∨ hi = 0 ∧ lo < 4294967296)).2 hv)

theorem short_walk (s : ByteArray) (h : s.size < 4294967281) (w : World) (hG : GV w) : Calls Tryd.prog 6 #[.string s] w fun e w' => e = .returned (.bool true) ∧ Below w.heap.size w w' :=
  Q.crosswaylaw03_AddrShort.calls (s.size + 200) s true w (short_f s h) hG

theorem short_reads (os : Os) {H : Type} (enc : TypeId × Value → H) : ∃ places, DataW.whole enc Tryd.prog ((World.laidAll Tryd.prog os laidL).forCall (fun _ _ => 0) ⟨#[], #[.string ⟨#[]⟩], []⟩).memory Tryd.f6.params.toList Rows.addrShortSpec.vars false #[Value.string ⟨#[]⟩].toList 8 = some ([.lit (.string [])], [], places) :=
  ⟨[], by kernel_rfl⟩

set_option maxRecDepth 100000 in
theorem short_lifted (os : Os) (started : os.Started) (H : Type) (enc : TypeId × Value → H) (F : Stop.Interp) :
    ReturnsInHanded {} Tryd.checked os 6 .any ((Rows.OpenSpec.upto Rows.addrShortSpec).preRow enc Tryd.prog Tryd.f6 Rows.addrShortUptoRow.domain false laidL) (((Rows.OpenSpec.upto Rows.addrShortSpec).at F).post enc Tryd.prog Tryd.f6 false true false false) := by
  obtain ⟨places, hx⟩ := short_reads os enc
  refine returnsInHanded_of_row (C := Tryd.checked) (s := Rows.OpenSpec.upto Rows.addrShortSpec) own started (by kernel_rfl) Tryd.func6
    ⟨World.laidAll Tryd.prog os laidL, fun _ _ => 0, ⟨#[], #[.string ⟨#[]⟩], []⟩, World.laidAll_os _ _ _, World.shaped_of_ZipB (by kernel_rfl) (by kernel_rfl), rfl, (Input.okWide_of_okWideB (by kernel_rfl)).2,
      OpenSpec.preRow_of_cond 8 hx (by kernel_rfl) (fun k hk => by cases hk; kernel_rfl) (by kernel_rfl) (by rw [MakeChecks.laidMetH_plain _ _ _ (by kernel_rfl)]; exact laidMet_laidAll _ (by kernel_rfl) (by kernel_rfl)), by simp [Assume.holds]⟩ ?_
  intro W base args ds gs before hval0 hW _ hcond _ hL hsh _
  have hval : ∀ (j : Nat) t v, Tryd.f6.params[j]? = some t → args[j]? = some v → Value.okWide Tryd.prog W .any base t v := hval0
  have hG := gv_of_laid hL hsh
  have hW' := hW
  obtain ⟨p, q, hA0, hV, rfl, _, _⟩ := hW
  have hA : DataW.TrodAll enc Tryd.prog W 0 (fun _ => true) true Tryd.f6.params.toList args.toList ds p := hA0
  rw [Tryd.params6] at hA hval
  obtain ⟨v0, d0, rfl, rfl, h0⟩ := trodAll_one hA
  obtain ⟨rfl, rfl⟩ := trodVars_none hV
  obtain ⟨s, rfl, rfl, rfl, y0⟩ := open_string Tryd.underlying9 (hval 0 9 v0 rfl rfl) h0
  have hb := of_decide_eq_true (hcond _ rfl)
  simp only [List.append_nil, Rows.uptoBulkAll, Rows.uptoBulk, Array.length_toList] at hb
  have hsz : s.size < 4294967281 := by
    have e : s.data.size = s.size := rfl
    rw [e] at hb
    omega
  simp only [List.append_nil] at hW'
  refine (short_walk s hsz W hG).mono fun e W' ⟨he, bel⟩ => ?_
  subst he
  exact ⟨_, rfl, _, _, _, [], [], [], hW', trodAll_mk1 (shut_bool Tryd.underlying4 _), trodAll_mk1 (shut_string Tryd.underlying9 y0), rfl, bel.frame _, fun h => by cases h⟩

theorem short_row : Rows.AddrShortUptoSaid :=
  OpenClaim.holds_of_cond 6 Tryd.f6 rfl rfl rfl rfl rfl rfl rfl ⟨rfl, rfl, rfl, rfl, rfl⟩ rfl rfl rfl rfl rfl (by kernel_rfl) Tryd.func6 (by kernel_rfl)
    (of_decide_eq_true (by kernel_rfl)) (by unfold Func.isWrapper; first | (rw [if_pos (by decide +kernel)]; kernel_rfl) | (rw [if_neg (by decide +kernel)]; exact ⟨rfl, rfl⟩))
    (fun os started H enc _ F => by rw [OpenClaim.pre_eq_preRow]; exact short_lifted os started H enc F)

theorem short_plain (f : FuncId) (fn : Func) (hf : Tryd.pinned.checked.prog.funcNamed "crossway/crosswaylaw03.AddrShort" = some f) (hfn : Tryd.pinned.checked.prog.funcs[f]? = some fn) :
    true = Tryd.pinned.checked.prog.looks [] ∧ ∀ (j : Nat) t, fn.params[j]? = some t → Tryd.pinned.checked.prog.wantsStandIn t = false := by
  obtain rfl : f = 6 := Option.some.inj ((show Tryd.prog.funcNamed "crossway/crosswaylaw03.AddrShort" = some 6 by kernel_rfl).symm.trans hf) |>.symm
  obtain rfl : fn = Tryd.f6 := (Option.some.inj (Tryd.func6.symm.trans hfn)).symm
  refine ⟨by kernel_rfl, fun j t ht => ?_⟩
  rw [Tryd.params6] at ht
  obtain rfl : t = 9 := by simpa using Array.mem_of_getElem? ht
  exact (show Tryd.prog.wantsStandIn 9 = false by kernel_rfl)

theorem addrShort_holds : Rows.AddrShortUptoCardSaid :=
  Claim7.holds_tied_plain_at .later [] _ _ _ _ short_row (fun _ h => by cases h) (by kernel_rfl) (fun _ h => by cases h) addrShortUpto_row_tie rfl ⟨rfl, rfl⟩ (by kernel_rfl) rfl short_plain (by kernel_rfl)
#print axioms addrShort_holds
end Go.Proofs.YtaekcldkfkiekaaDoor
