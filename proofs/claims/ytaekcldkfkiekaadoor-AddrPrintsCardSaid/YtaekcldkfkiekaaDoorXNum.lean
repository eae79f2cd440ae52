/- What strconv.ParseUint answers at bases 10 and 16 for texts of one to four bytes. Condition: the text has one to four bytes. -/
import Derived.Test.YtaekcldkfkiekaaDoorWMore
import Derived.Test.YtaekcldkfkiekaaDoorProg
import Derived.Test.YtaekcldkfkiekaaDoorXSpec
import Derived.WalkKit
import Derived.Lib.ConvBytes
import Derived.Lib.Hide
namespace Go.Proofs.YtaekcldkfkiekaaDoor
open Go.RowKit Go.Proofs.YtaekcldkfkiekaaDoorW.PrintWords Go.Proofs.YtaekcldkfkiekaaDoorW.PrintLast Go.Proofs.YtaekcldkfkiekaaDoorW.PrintMore


theorem lower_same (c q : Int) (w : World) (h : bits .or .u8 c 32 = q) : Calls Tryd.prog 75 #[.int .u8 c] w fun e w' => e = .returned (.int .u8 q) ∧ w = w' := by
  subst h
  go_enter Tryd.func75, Tryd.ntmps75
  go_wp2
  go_ret
  exact ⟨rfl, rfl⟩

theorem bytesWorld_below (w : World) (e : TypeId) (s : ByteArray) : Below w.heap.size w (Lib.bytesWorld w e s) := by
  refine ⟨?_, ?_, ?_, ?_, fun j hj => Lib.bytesWorld_at_old w e s j hj⟩
  · unfold Lib.bytesWorld World.freeze; split <;> rfl
  · unfold Lib.bytesWorld World.freeze; split <;> rfl
  · unfold Lib.bytesWorld World.freeze; split <;> rfl
  · rw [Lib.bytesWorld_size]; omega

set_option maxRecDepth 100000 in
set_option maxHeartbeats 2000000 in
theorem pu16 (t : ByteArray) (hne : t.size ≠ 0) (h4 : t.size ≤ 4) (w : World) :
    Calls Tryd.prog 62 #[.string t, .int .i64 16, .int .i64 64] w fun e w' => e = .returned (puTuple (num 16 0 t.data.toList)) ∧ Below w.heap.size w w' := by
  have hemp : t.toList.isEmpty = false := by
    rw [← decide_eq_emptyBytes]
    exact decide_eq_false (fun h => hne (by rw [h]; rfl))
  have hcv := Lib.run_convert_string_bytes (P := Tryd.prog) w 9 30 5 t (u := .string) Tryd.underlying9 Tryd.underlying30 Tryd.underlying5
  have hB : ∀ j, j < t.size → (Lib.bytesWorld w 5 t).cell? ⟨w.heap.size, j, none⟩ = some (.int .u8 (t.data.toList.getD j 0).toNat) := fun j hj => Lib.bytesWorld_cell w 5 t j hj
  have HW := Lib.hid (bytesWorld_below w 5 t)
  obtain ⟨W1, hW1⟩ : ∃ W1, W1 = Lib.bytesWorld w 5 t := ⟨_, rfl⟩
  rw [← hW1] at hcv hB HW
  clear hW1
  obtain ⟨bs, hL⟩ : ∃ bs, bs = t.data.toList := ⟨_, rfl⟩
  have hLn : bs.length = t.size := by rw [hL]; exact Array.length_toList
  rw [← hL] at hB ⊢
  clear hL
  have hmv : IntKind.u64.wrap (IntKind.u64.wrap 18446744073709551616 - 1) = 18446744073709551615 := by
    rw [IntKind.wrap_u64, IntKind.wrap_u64]
    decide
  go_enter Tryd.func62, Tryd.ntmps62
  go_wp2
  go_loop [12, 13, 101] (fun vu vn vi => ∃ (k acc : Nat) (a : Int), vu = .bool false ∧ vn = .int .u64 a ∧ vi = .int .i64 k ∧ k ≤ t.size ∧ Hid (a = (acc : Int) ∧ acc < 16 ^ k ∧ num 16 0 bs = num 16 acc (bs.drop k)))
    (fun _ _ vi => t.size - (intOf vi).toNat)
  case atStart => exact ⟨0, 0, 0, rfl, rfl, rfl, by omega, rfl, by simp, rfl⟩
  case round =>
    obtain ⟨k, acc, a, rfl, rfl, rfl, hk, hh⟩ := hrel
    obtain ⟨ha, hacc, hdec⟩ := hh.out
    clear hh
    have hpow : 16 ^ k ≤ 16 ^ 4 := Nat.pow_le_pow_right (by omega) (by omega)
    have hp5 : acc < 65536 := by
      have : (16 : Nat) ^ 4 ≤ 65536 := by decide
      omega
    have a0 : 0 ≤ a := by omega
    have a1 : a < 65536 := by omega
    by_cases hkn : k < t.size
    · have hc := hB k hkn
      have hdrop : bs.drop k = bs[k]'(by omega) :: bs.drop (k + 1) := List.drop_eq_getElem_cons (by omega)
      have hget : bs.getD k 0 = bs[k]'(by omega) := by simp [List.getD, List.getElem?_eq_getElem (show k < bs.length by omega)]
      rw [hdrop] at hdec
      rw [hget] at hc
      generalize bs[k]'(by omega) = c at hc hdec
      have hc256 : c.toNat < 256 := c.toNat_lt
      have hp : 16 ^ (k + 1) = 16 ^ k * 16 := Nat.pow_succ ..
      clear hB hdrop hget hpow
      by_cases hdig : 48 ≤ c.toNat ∧ c.toNat ≤ 57
      · obtain ⟨hd0, hd1⟩ := hdig
        have hF : num 16 acc (c :: bs.drop (k + 1)) = num 16 (acc * 16 + (c.toNat - 48)) (bs.drop (k + 1)) := num_digit 16 acc c _ hd0 hd1 (by omega)
        have HN : Hid (a * 16 + ((c.toNat : Int) - 48) = ((acc * 16 + (c.toNat - 48) : Nat) : Int) ∧ acc * 16 + (c.toNat - 48) < 16 ^ (k + 1) ∧ num 16 0 bs = num 16 (acc * 16 + (c.toNat - 48)) (bs.drop (k + 1))) := Lib.hid ⟨by omega, by rw [hp]; omega, hdec.trans hF⟩
        clear hacc hF hdec ha hp
        go_wp2
        refine ⟨⟨k + 1, acc * 16 + (c.toNat - 48), a * 16 + ((c.toNat : Int) - 48), rfl, (by first | rfl | (congr 1; omega)), (by first | rfl | (congr 1; omega)), by omega, HN⟩, by simp [intOf]; omega⟩
      · have hv0 := bits_lo_u8 .or (c.toNat : Int) 32
        have hv1 := bits_hi_u8 .or (c.toNat : Int) 32
        by_cases hlet : (97 : Int) ≤ bits .or .u8 (c.toNat : Int) 32 ∧ bits .or .u8 (c.toNat : Int) 32 ≤ 122
        · obtain ⟨hl0, hl1⟩ := hlet
          by_cases hbase : bits .or .u8 (c.toNat : Int) 32 - 87 < 16
          · have hF : num 16 acc (c :: bs.drop (k + 1)) = num 16 (acc * 16 + ((bits .or .u8 (c.toNat : Int) 32 - 87).toNat)) (bs.drop (k + 1)) := num_letter 16 acc c _ hdig hl0 hl1 hbase
            have h95 : c.toNat ≠ 95 := by
              intro h; rw [h] at hl1; revert hl1; decide
            generalize hq : bits .or .u8 (c.toNat : Int) 32 = q at *
            have HQ := Lib.hid hq
            clear hq
            have HN : Hid (a * 16 + (q - 97 + 10) = ((acc * 16 + (q - 87).toNat : Nat) : Int) ∧ acc * 16 + (q - 87).toNat < 16 ^ (k + 1) ∧ num 16 0 bs = num 16 (acc * 16 + (q - 87).toNat) (bs.drop (k + 1))) := Lib.hid ⟨by omega, by rw [hp]; omega, hdec.trans hF⟩
            have hw1 : IntKind.u8.wrap (q - 97) = q - 97 := by rw [IntKind.wrap_u8]; omega
            have h95b : ((c.toNat : Int) == 95) = false := by simp; omega
            clear hacc hF hdec ha hp
            go_wp2_with (go_at_call 75; refine (lower_same _ q _ HQ.out).mono ?_; rintro e w' ⟨rfl, rfl⟩)
            all_goals refine ⟨⟨k + 1, acc * 16 + (q - 87).toNat, a * 16 + (q - 97 + 10), rfl, (by first | rfl | (congr 1; omega)), (by first | rfl | (congr 1; omega)), by omega, HN⟩, by simp [intOf]; omega⟩
          · have hF : num 16 acc (c :: bs.drop (k + 1)) = none := num_high 16 acc c _ hdig hl0 hl1 hbase
            rw [hF] at hdec
            have h95 : c.toNat ≠ 95 := by
              intro h; rw [h] at hl1; revert hl1; decide
            generalize hq : bits .or .u8 (c.toNat : Int) 32 = q at *
            have HQ := Lib.hid hq
            clear hq
            have hw1 : IntKind.u8.wrap (q - 97) = q - 97 := by rw [IntKind.wrap_u8]; omega
            have h95b : ((c.toNat : Int) == 95) = false := by simp; omega
            clear hacc hF ha hp
            go_wp2_with (go_at_call 75; refine (lower_same _ q _ HQ.out).mono ?_; rintro e w' ⟨rfl, rfl⟩)
            all_goals go_ret2
            all_goals exact ⟨by first | rfl | (rw [hdec]; rfl), HW.out⟩
        · have hF : num 16 acc (c :: bs.drop (k + 1)) = none := num_none 16 acc c _ hdig hlet
          rw [hF] at hdec
          by_cases h95 : c.toNat = 95
          · rw [h95] at hc
            clear hacc hF ha hp hv0 hv1 hlet hdig h95 hc256
            go_wp2_with (go_at_call 75; refine (lower_same _ 127 _ (by decide)).mono ?_; rintro e w' ⟨rfl, rfl⟩)
            all_goals go_ret2
            all_goals exact ⟨by first | rfl | (rw [hdec]; rfl), HW.out⟩
          · have h95b : ((c.toNat : Int) == 95) = false := by simp; omega
            generalize hq : bits .or .u8 (c.toNat : Int) 32 = q at *
            have HQ := Lib.hid hq
            clear hq
            clear hacc hF ha hp
            go_wp2_with (go_at_call 75; refine (lower_same _ q _ HQ.out).mono ?_; rintro e w' ⟨rfl, rfl⟩)
            all_goals go_ret2
            all_goals exact ⟨by first | rfl | (rw [hdec]; rfl), HW.out⟩
    · have hkk : k = t.size := by omega
      subst hkk
      have hF : num 16 acc (bs.drop t.size) = some acc := by rw [List.drop_eq_nil_of_le (by omega)]; rfl
      rw [hF] at hdec
      subst ha
      clear hacc hF a0 a1
      go_wp2
      go_ret2
      exact ⟨rfl, HW.out⟩

set_option maxRecDepth 100000 in
set_option maxHeartbeats 2000000 in
theorem pu10 (t : ByteArray) (hne : t.size ≠ 0) (h4 : t.size ≤ 4) (w : World) :
    Calls Tryd.prog 62 #[.string t, .int .i64 10, .int .i64 64] w fun e w' => e = .returned (puTuple (num 10 0 t.data.toList)) ∧ Below w.heap.size w w' := by
  have hemp : t.toList.isEmpty = false := by
    rw [← decide_eq_emptyBytes]
    exact decide_eq_false (fun h => hne (by rw [h]; rfl))
  have hcv := Lib.run_convert_string_bytes (P := Tryd.prog) w 9 30 5 t (u := .string) Tryd.underlying9 Tryd.underlying30 Tryd.underlying5
  have hB : ∀ j, j < t.size → (Lib.bytesWorld w 5 t).cell? ⟨w.heap.size, j, none⟩ = some (.int .u8 (t.data.toList.getD j 0).toNat) := fun j hj => Lib.bytesWorld_cell w 5 t j hj
  have HW := Lib.hid (bytesWorld_below w 5 t)
  obtain ⟨W1, hW1⟩ : ∃ W1, W1 = Lib.bytesWorld w 5 t := ⟨_, rfl⟩
  rw [← hW1] at hcv hB HW
  clear hW1
  obtain ⟨bs, hL⟩ : ∃ bs, bs = t.data.toList := ⟨_, rfl⟩
  have hLn : bs.length = t.size := by rw [hL]; exact Array.length_toList
  rw [← hL] at hB ⊢
  clear hL
  have hmv : IntKind.u64.wrap (IntKind.u64.wrap 18446744073709551616 - 1) = 18446744073709551615 := by
    rw [IntKind.wrap_u64, IntKind.wrap_u64]
    decide
  go_enter Tryd.func62, Tryd.ntmps62
  go_wp2
  go_loop [12, 13, 101] (fun vu vn vi => ∃ (k acc : Nat) (a : Int), vu = .bool false ∧ vn = .int .u64 a ∧ vi = .int .i64 k ∧ k ≤ t.size ∧ Hid (a = (acc : Int) ∧ acc < 10 ^ k ∧ num 10 0 bs = num 10 acc (bs.drop k)))
    (fun _ _ vi => t.size - (intOf vi).toNat)
  case atStart => exact ⟨0, 0, 0, rfl, rfl, rfl, by omega, rfl, by simp, rfl⟩
  case round =>
    obtain ⟨k, acc, a, rfl, rfl, rfl, hk, hh⟩ := hrel
    obtain ⟨ha, hacc, hdec⟩ := hh.out
    clear hh
    have hpow : 10 ^ k ≤ 10 ^ 4 := Nat.pow_le_pow_right (by omega) (by omega)
    have hp5 : acc < 65536 := by
      have : (10 : Nat) ^ 4 ≤ 65536 := by decide
      omega
    have a0 : 0 ≤ a := by omega
    have a1 : a < 65536 := by omega
    by_cases hkn : k < t.size
    · have hc := hB k hkn
      have hdrop : bs.drop k = bs[k]'(by omega) :: bs.drop (k + 1) := List.drop_eq_getElem_cons (by omega)
      have hget : bs.getD k 0 = bs[k]'(by omega) := by simp [List.getD, List.getElem?_eq_getElem (show k < bs.length by omega)]
      rw [hdrop] at hdec
      rw [hget] at hc
      generalize bs[k]'(by omega) = c at hc hdec
      have hc256 : c.toNat < 256 := c.toNat_lt
      have hp : 10 ^ (k + 1) = 10 ^ k * 10 := Nat.pow_succ ..
      clear hB hdrop hget hpow
      by_cases hdig : 48 ≤ c.toNat ∧ c.toNat ≤ 57
      · obtain ⟨hd0, hd1⟩ := hdig
        have hF : num 10 acc (c :: bs.drop (k + 1)) = num 10 (acc * 10 + (c.toNat - 48)) (bs.drop (k + 1)) := num_digit 10 acc c _ hd0 hd1 (by omega)
        have HN : Hid (a * 10 + ((c.toNat : Int) - 48) = ((acc * 10 + (c.toNat - 48) : Nat) : Int) ∧ acc * 10 + (c.toNat - 48) < 10 ^ (k + 1) ∧ num 10 0 bs = num 10 (acc * 10 + (c.toNat - 48)) (bs.drop (k + 1))) := Lib.hid ⟨by omega, by rw [hp]; omega, hdec.trans hF⟩
        clear hacc hF hdec ha hp
        go_wp2
        refine ⟨⟨k + 1, acc * 10 + (c.toNat - 48), a * 10 + ((c.toNat : Int) - 48), rfl, (by first | rfl | (congr 1; omega)), (by first | rfl | (congr 1; omega)), by omega, HN⟩, by simp [intOf]; omega⟩
      · have hv0 := bits_lo_u8 .or (c.toNat : Int) 32
        have hv1 := bits_hi_u8 .or (c.toNat : Int) 32
        by_cases hlet : (97 : Int) ≤ bits .or .u8 (c.toNat : Int) 32 ∧ bits .or .u8 (c.toNat : Int) 32 ≤ 122
        · obtain ⟨hl0, hl1⟩ := hlet
          by_cases hbase : bits .or .u8 (c.toNat : Int) 32 - 87 < 10
          · have hF : num 10 acc (c :: bs.drop (k + 1)) = num 10 (acc * 10 + ((bits .or .u8 (c.toNat : Int) 32 - 87).toNat)) (bs.drop (k + 1)) := num_letter 10 acc c _ hdig hl0 hl1 hbase
            have h95 : c.toNat ≠ 95 := by
              intro h; rw [h] at hl1; revert hl1; decide
            generalize hq : bits .or .u8 (c.toNat : Int) 32 = q at *
            have HQ := Lib.hid hq
            clear hq
            have HN : Hid (a * 10 + (q - 97 + 10) = ((acc * 10 + (q - 87).toNat : Nat) : Int) ∧ acc * 10 + (q - 87).toNat < 10 ^ (k + 1) ∧ num 10 0 bs = num 10 (acc * 10 + (q - 87).toNat) (bs.drop (k + 1))) := Lib.hid ⟨by omega, by rw [hp]; omega, hdec.trans hF⟩
            have hw1 : IntKind.u8.wrap (q - 97) = q - 97 := by rw [IntKind.wrap_u8]; omega
            have h95b : ((c.toNat : Int) == 95) = false := by simp; omega
            clear hacc hF hdec ha hp
            go_wp2_with (go_at_call 75; refine (lower_same _ q _ HQ.out).mono ?_; rintro e w' ⟨rfl, rfl⟩)
            all_goals refine ⟨⟨k + 1, acc * 10 + (q - 87).toNat, a * 10 + (q - 97 + 10), rfl, (by first | rfl | (congr 1; omega)), (by first | rfl | (congr 1; omega)), by omega, HN⟩, by simp [intOf]; omega⟩
          · have hF : num 10 acc (c :: bs.drop (k + 1)) = none := num_high 10 acc c _ hdig hl0 hl1 hbase
            rw [hF] at hdec
            have h95 : c.toNat ≠ 95 := by
              intro h; rw [h] at hl1; revert hl1; decide
            generalize hq : bits .or .u8 (c.toNat : Int) 32 = q at *
            have HQ := Lib.hid hq
            clear hq
            have hw1 : IntKind.u8.wrap (q - 97) = q - 97 := by rw [IntKind.wrap_u8]; omega
            have h95b : ((c.toNat : Int) == 95) = false := by simp; omega
            clear hacc hF ha hp
            go_wp2_with (go_at_call 75; refine (lower_same _ q _ HQ.out).mono ?_; rintro e w' ⟨rfl, rfl⟩)
            all_goals go_ret2
            all_goals exact ⟨by first | rfl | (rw [hdec]; rfl), HW.out⟩
        · have hF : num 10 acc (c :: bs.drop (k + 1)) = none := num_none 10 acc c _ hdig hlet
          rw [hF] at hdec
          by_cases h95 : c.toNat = 95
          · rw [h95] at hc
            clear hacc hF ha hp hv0 hv1 hlet hdig h95 hc256
            go_wp2_with (go_at_call 75; refine (lower_same _ 127 _ (by decide)).mono ?_; rintro e w' ⟨rfl, rfl⟩)
            all_goals go_ret2
            all_goals exact ⟨by first | rfl | (rw [hdec]; rfl), HW.out⟩
          · have h95b : ((c.toNat : Int) == 95) = false := by simp; omega
            generalize hq : bits .or .u8 (c.toNat : Int) 32 = q at *
            have HQ := Lib.hid hq
            clear hq
            clear hacc hF ha hp
            go_wp2_with (go_at_call 75; refine (lower_same _ q _ HQ.out).mono ?_; rintro e w' ⟨rfl, rfl⟩)
            all_goals go_ret2
            all_goals exact ⟨by first | rfl | (rw [hdec]; rfl), HW.out⟩
    · have hkk : k = t.size := by omega
      subst hkk
      have hF : num 10 acc (bs.drop t.size) = some acc := by rw [List.drop_eq_nil_of_le (by omega)]; rfl
      rw [hF] at hdec
      subst ha
      clear hacc hF a0 a1
      go_wp2
      go_ret2
      exact ⟨rfl, HW.out⟩

end Go.Proofs.YtaekcldkfkiekaaDoor
