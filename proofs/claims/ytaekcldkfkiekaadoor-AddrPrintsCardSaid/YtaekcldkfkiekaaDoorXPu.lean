/- What the program's 'number' answers: the number that at most four digits of base 10 or 16 tell. Condition: base 10 or 16, at most four bytes asked. -/
import Derived.Test.YtaekcldkfkiekaaDoorXGv
import Derived.Deep.QuietTactic
import Derived.BigQuiet
import Derived.WideLaws
namespace Go.Proofs.YtaekcldkfkiekaaDoor
open Go.RowKit Go.Proofs.YtaekcldkfkiekaaDoorW.PrintWords

def okTuple : Option Nat → Bool := Option.isSome

set_option maxRecDepth 100000 in
set_option maxHeartbeats 1000000 in
theorem pub_some (b : Int) (n : Nat) (t : ByteArray) (w : World)
    (h : Calls Tryd.prog 62 #[.string t, .int .i64 b, .int .i64 64] w fun e w' => e = .returned (.tuple #[.int .u64 n, .nilIface]) ∧ Below w.heap.size w w') :
    Calls Tryd.prog 51 #[.string t, .int .i64 b, .int .i64 64] w fun e w' => e = .returned (.tuple #[.int .u64 n, .nilIface]) ∧ Below w.heap.size w w' := by
  have H := Lib.hid h
  clear h
  go_enter Tryd.func51, Tryd.ntmps51
  go_wp2_with (go_at_call 62; refine H.out.mono ?_; rintro e w' ⟨rfl, hb⟩; have HB := Lib.hid hb; clear hb)
  go_ret2
  exact ⟨rfl, HB.out⟩

set_option maxRecDepth 100000 in
set_option maxHeartbeats 1000000 in
theorem pub_none (b : Int) (t : ByteArray) (w : World) (hg : GV w) (hlim : t.size ≤ 4)
    (h : Calls Tryd.prog 62 #[.string t, .int .i64 b, .int .i64 64] w fun e w' => e = .returned (.tuple #[.int .u64 0, .iface 107 (.int .i64 2)]) ∧ Below w.heap.size w w') :
    Calls Tryd.prog 51 #[.string t, .int .i64 b, .int .i64 64] w fun e w' => ∃ q v, e = .returned (.tuple #[.int .u64 0, .iface q v]) ∧ Below w.heap.size w w' := by
  have H := Lib.hid h
  clear h
  have HG := Lib.hid hg
  clear hg
  go_enter Tryd.func51, Tryd.ntmps51
  go_wp2_with (first | (go_at_call 62; refine H.out.mono ?_; rintro e w' ⟨rfl, hb⟩; have HB := Lib.hid hb; clear hb; have he := (HG.out.below HB.out).err; obtain ⟨ev, he1, he2⟩ := he; have H1 := Lib.hid he1; have H2 := Lib.hid he2; clear he1 he2) | (go_at_call 63; refine (Tryd.strconv_toError_syntax _ t b 64 ev _ (by omega) H1.out H2.out).mono ?_; rintro e w2 ⟨N, rfl, hN, hblk, hb2⟩; have HB2 := Lib.hid hb2; clear hb2 hN hblk))
  go_ret2
  exact ⟨_, _, rfl, HB.out.trans (HB2.out.mono HB.out.size)⟩

/-- what 'number' answers -/
def numberOf (s : ByteArray) (b : Nat) (most : Int) : Int × Bool :=
  if s.size = 0 ∨ most < s.size then (0, false) else
  match num b 0 s.data.toList with
  | some n => ((n : Int), true)
  | none => (0, false)

def addr_number.f (a0 : ByteArray) (a1 : Int) (a2 : Int) : Option (Int × Bool) :=
  if (a1 = 10 ∨ a1 = 16) ∧ a2 ≤ 4 then some (numberOf a0 a1.toNat a2) else none

theorem pu_any (b : Nat) (hb : b = 10 ∨ b = 16) (t : ByteArray) (hne : t.size ≠ 0) (h4 : t.size ≤ 4) (w : World) :
    Calls Tryd.prog 62 #[.string t, .int .i64 b, .int .i64 64] w fun e w' => e = .returned (puTuple (num b 0 t.data.toList)) ∧ Below w.heap.size w w' := by
  rcases hb with rfl | rfl
  · exact pu10 t hne h4 w
  · exact pu16 t hne h4 w

set_option maxRecDepth 100000 in
set_option maxHeartbeats 1000000 in
theorem addr_number.calls (a0 : ByteArray) (a1 : Int) (a2 : Int) (r1 : Int) (r2 : Bool) (w : World) (h : addr_number.f a0 a1 a2 = some (r1, r2)) (hG : GV w) :
    Calls Tryd.prog 41 #[.string a0, .int .i64 a1, .int .i64 a2] w fun e w' => e = .returned (.tuple #[.int .u64 r1, .bool r2]) ∧ Below w.heap.size w w' := by
  unfold addr_number.f at h
  split at h
  case isFalse => cases h
  rename_i hc
  obtain ⟨hb, h4⟩ := hc
  simp only [Option.some.injEq] at h
  have hs : (a0.toList.isEmpty = true ↔ a0.size = 0) := by
    rw [← decide_eq_emptyBytes, decide_eq_true_iff]
    constructor
    · intro e; rw [e]; rfl
    · intro e; cases a0 with | mk d => simp [ByteArray.size] at e; subst e; rfl
  unfold numberOf at h
  by_cases h0 : a0.size = 0
  · rw [if_pos (Or.inl h0)] at h
    simp only [Prod.mk.injEq] at h
    obtain ⟨rfl, rfl⟩ := h
    have he : a0.toList.isEmpty = true := hs.2 h0
    clear hs h0 hG hb
    go_enter Tryd.func41, Tryd.ntmps41
    go_wp2_with fail
    go_ret2
    exact ⟨rfl, Below.refl _ _⟩
  · have he : a0.toList.isEmpty = false := by
      cases hx : a0.toList.isEmpty with
      | true => exact absurd (hs.1 hx) h0
      | false => rfl
    by_cases h1 : a2 < a0.size
    · rw [if_pos (Or.inr h1)] at h
      simp only [Prod.mk.injEq] at h
      obtain ⟨rfl, rfl⟩ := h
      clear hs h0 hG hb
      go_enter Tryd.func41, Tryd.ntmps41
      go_wp2_with fail
      go_ret2
      exact ⟨rfl, Below.refl _ _⟩
    · rw [if_neg (by omega)] at h
      obtain ⟨b, rfl⟩ : ∃ b : Nat, a1 = b := ⟨a1.toNat, by omega⟩
      have hb' : b = 10 ∨ b = 16 := by omega
      have hP := pu_any b hb' a0 h0 (by omega)
      rw [Int.toNat_natCast] at h
      have h1' : (a0.size : Int) ≤ a2 := by omega
      cases hn : num b 0 a0.data.toList with
      | some n =>
        rw [hn] at h hP
        simp only [Prod.mk.injEq] at h
        obtain ⟨rfl, rfl⟩ := h
        have HP := Lib.hid (fun w => pub_some b n a0 w (hP w))
        clear hs h0 hG hb hb' hP hn h1
        go_enter Tryd.func41, Tryd.ntmps41
        go_wp2_with (go_at_call 51; refine (HP.out _).mono ?_; rintro e w' ⟨rfl, hb⟩; have HB := Lib.hid hb; clear hb)
        go_quiet (fail)
        go_wp2
        go_ret2
        exact ⟨rfl, pw_below_drewN HB.out _⟩
      | none =>
        rw [hn] at h hP
        simp only [Prod.mk.injEq] at h
        obtain ⟨rfl, rfl⟩ := h
        have HP := Lib.hid (fun (w : World) (g : GV w) => pub_none b a0 w g (by omega) (hP w))
        have HG := Lib.hid hG
        clear hs h0 hG hb hb' hP hn h1
        go_enter Tryd.func41, Tryd.ntmps41
        go_wp2_with (go_at_call 51; refine (HP.out _ HG.out).mono ?_; rintro e w' ⟨q, v, rfl, hb⟩; have HB := Lib.hid hb; clear hb)
        go_quiet (fail)
        go_wp2
        go_ret2
        exact ⟨rfl, pw_below_drewN HB.out _⟩
end Go.Proofs.YtaekcldkfkiekaaDoor
