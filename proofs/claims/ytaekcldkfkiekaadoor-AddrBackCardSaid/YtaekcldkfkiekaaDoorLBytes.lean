/- An address's bytes, and the address of bytes. Plain law. No condition. -/
import Derived.Test.YtaekcldkfkiekaaDoorLSix
import Derived.Test.YtaekcldkfkiekaaDoorQ16
import Derived.Test.YtaekcldkfkiekaaDoorQ21
namespace Go.Proofs.YtaekcldkfkiekaaDoor
open Go.RowKit Go.Proofs.YtaekcldkfkiekaaDoorW.PrintWords Go.Proofs.YtaekcldkfkiekaaDoorW.PrintLast Go.Proofs.YtaekcldkfkiekaaDoorW.PrintMore

/-- the byte j of a number of so many bytes -/
def byteAt (top : Nat) (x : Int) (j : Nat) : Int := x / 2 ^ (top - 8 * j) % 256

theorem w64 (n : Nat) (h : n < 9223372036854775808) : wrap64 (n : Int) = n := wrap64_nat h

theorem shift_amt (top i : Nat) (ht : top ≤ 56) (h : 8 * i ≤ top) : wrap64 ((top : Int) - wrap64 (8 * (i : Int))) = ((top - 8 * i : Nat) : Int) := by
  rw [show 8 * (i : Int) = ((8 * i : Nat) : Int) by omega, w64 _ (by omega), show (top : Int) - ((8 * i : Nat) : Int) = ((top - 8 * i : Nat) : Int) by omega, w64 _ (by omega)]

theorem shr_nat (x : Int) (n : Nat) (h : n ≤ 56) : shr .u64 x (n : Int) = x / 2 ^ n := by
  unfold shr
  rw [Int.toNat_natCast, Nat.min_eq_left (by show n ≤ 64; omega)]

theorem step_byte (top : Nat) (x : Int) (i : Nat) (ht : top ≤ 56) (h : 8 * i ≤ top) :
    0 ≤ wrap64 ((top : Int) - wrap64 (8 * (i : Int))) ∧ shr .u64 x (wrap64 ((top : Int) - wrap64 (8 * (i : Int)))) % 256 = byteAt top x i := by
  rw [shift_amt top i ht h]
  refine ⟨by omega, ?_⟩
  rw [shr_nat _ _ (by omega)]
  rfl

theorem map_from (top : Nat) (x : Int) (i d : Nat) : [byteAt top x i] ++ (List.range' (i + 1) d).map (byteAt top x) = (List.range' i (d + 1)).map (byteAt top x) := by
  rw [List.range'_succ]
  rfl

open Q in
theorem bytes_l1 (six : Bool) (hi lo : Int) (k : Nat) : ∀ (d i : Nat) (acc : List Int), i + d = 8 → acc.length + d < 100 →
    addr_Bytes.l1 (k + 1 + d) acc (i : Int) six hi lo = some (acc ++ (List.range' i d).map (byteAt 56 lo))
  | 0, i, acc, h, _ => by
    rw [Nat.add_zero]
    simp only [addr_Bytes.l1]
    rw [if_neg (by omega)]
    simp
  | d + 1, i, acc, h, ha => by
    have hs := step_byte 56 lo i (by omega) (by omega)
    rw [← Nat.add_assoc]
    simp only [addr_Bytes.l1]
    rw [if_pos (by omega), show (56 : Int) = ((56 : Nat) : Int) from rfl, if_pos hs.1, if_pos (by omega), hs.2, show (i : Int) + 1 = ((i + 1 : Nat) : Int) by omega, w64 _ (by omega)]
    rw [bytes_l1 six hi lo k d (i + 1) _ (by omega) (by simp; omega), List.append_assoc, map_from]

open Q in
theorem bytes_l0 (six : Bool) (hi lo : Int) (k : Nat) : ∀ (d i : Nat) (acc : List Int), i + d = 8 → acc.length + d < 100 →
    addr_Bytes.l0 (k + 1 + d) acc (i : Int) six hi lo = addr_Bytes.l1 k (acc ++ (List.range' i d).map (byteAt 56 hi)) 0 six hi lo
  | 0, i, acc, h, _ => by
    rw [Nat.add_zero]
    simp only [addr_Bytes.l0]
    rw [if_neg (by omega)]
    simp
  | d + 1, i, acc, h, ha => by
    have hs := step_byte 56 hi i (by omega) (by omega)
    rw [← Nat.add_assoc]
    simp only [addr_Bytes.l0]
    rw [if_pos (by omega), show (56 : Int) = ((56 : Nat) : Int) from rfl, if_pos hs.1, if_pos (by omega), hs.2, show (i : Int) + 1 = ((i + 1 : Nat) : Int) by omega, w64 _ (by omega)]
    rw [bytes_l0 six hi lo k d (i + 1) _ (by omega) (by simp; omega), List.append_assoc, map_from]

open Q in
theorem bytes_l2 (six : Bool) (hi lo : Int) (k : Nat) : ∀ (d i : Nat) (acc : List Int), i + d = 4 → acc.length + d < 100 →
    addr_Bytes.l2 (k + 1 + d) acc (i : Int) six hi lo = some (acc ++ (List.range' i d).map (byteAt 24 lo))
  | 0, i, acc, h, _ => by
    rw [Nat.add_zero]
    simp only [addr_Bytes.l2]
    rw [if_neg (by omega)]
    simp
  | d + 1, i, acc, h, ha => by
    have hs := step_byte 24 lo i (by omega) (by omega)
    rw [← Nat.add_assoc]
    simp only [addr_Bytes.l2]
    rw [if_pos (by omega), show (24 : Int) = ((24 : Nat) : Int) from rfl, if_pos hs.1, if_pos (by omega), hs.2, show (i : Int) + 1 = ((i + 1 : Nat) : Int) by omega, w64 _ (by omega)]
    rw [bytes_l2 six hi lo k d (i + 1) _ (by omega) (by simp; omega), List.append_assoc, map_from]


theorem valid_val (six : Bool) (hi lo : Int) : Q.addr_Valid.f six hi lo = some (six || (hi == 0 && decide (lo < 4294967296))) := valid_f six hi lo

def bytesP (six : Bool) (hi lo : Int) : List Int :=
  if six then (List.range' 0 8).map (byteAt 56 hi) ++ (List.range' 0 8).map (byteAt 56 lo)
  else if hi = 0 ∧ lo < 4294967296 then (List.range' 0 4).map (byteAt 24 lo) else []

theorem bytes_f (six : Bool) (hi lo : Int) (k : Nat) (hk : 18 ≤ k) : Q.addr_Bytes.f k six hi lo = some (bytesP six hi lo) := by
  obtain ⟨m, rfl⟩ := Nat.exists_eq_add_of_le hk
  unfold Q.addr_Bytes.f bytesP
  rw [valid_val]
  cases six with
  | true =>
    simp only [Bool.true_or, Option.bind_some, if_true]
    rw [show 18 + m = (m + 9) + 1 + 8 by omega, show (0 : Int) = ((0 : Nat) : Int) from rfl, bytes_l0 true hi lo (m + 9) 8 0 [] (by omega) (by simp)]
    rw [show m + 9 = m + 1 + 8 by omega, show (0 : Int) = ((0 : Nat) : Int) from rfl, bytes_l1 true hi lo m 8 0 _ (by omega) (by simp)]
    rfl
  | false =>
    by_cases h : hi = 0 ∧ lo < 4294967296
    · rw [if_neg (by simp), if_pos h]
      simp only [h.1, h.2, Bool.false_or, BEq.rfl, Bool.true_and, decide_true, Option.bind_some, if_true]
      rw [if_neg (by simp), show 18 + m = (m + 13) + 1 + 4 by omega, show (0 : Int) = ((0 : Nat) : Int) from rfl, bytes_l2 false _ lo (m + 13) 4 0 [] (by omega) (by simp)]
      rfl
    · rw [if_neg (by simp), if_neg h]
      have e : (false || (hi == 0 && decide (lo < 4294967296))) = false := by
        simp only [Bool.false_or, Bool.and_eq_false_iff, beq_eq_false_iff_ne, decide_eq_false_iff_not]
        by_cases h0 : hi = 0
        · exact Or.inr (fun hl => h ⟨h0, hl⟩)
        · exact Or.inl h0
      rw [e]
      rfl

theorem or8_big (x n : Nat) (hx : x < 72057594037927936) (hn : n < 256) : or8 x n = ((x * 256 + n : Nat) : Int) := by
  unfold or8
  rw [show IntKind.u64.wrap ((x : Int) * 256) = ((x * 256 : Nat) : Int) by rw [IntKind.wrap_u64]; omega]
  rw [u64_or_nat _ _ (by omega) (by omega)]
  congr 1
  have h := Nat.two_pow_add_eq_or_of_lt (i := 8) (b := n) (by omega) x
  simp only [show (2 : Nat) ^ 8 = 256 from rfl] at h
  rw [Nat.mul_comm x 256, ← h]

theorem byteAt_nat (top x j : Nat) : byteAt top (x : Int) j = ((x / 2 ^ (top - 8 * j) % 256 : Nat) : Int) := by
  unfold byteAt
  rw [Int.natCast_emod, Int.natCast_ediv, Int.natCast_pow]
  rfl

theorem more_bytes (x p : Nat) : x / (p * 256) * 256 + x / p % 256 = x / p := by
  rw [← Nat.div_div_eq_div_mul]
  omega

open Q in
theorem of_step (l : List Int) (n k i : Nat) (six : Bool) (a b : Int) (v : Nat) (hn : l.length = n) (h64 : n < 100) (hi : i < n) (hv : l.getD i 0 = (v : Int)) (hv2 : v < 256) :
    addr_Of.l0 (k + 1) l (n : Int) (i : Int) six a b = if six = true ∧ i < 8 then addr_Of.l0 k l (n : Int) ((i + 1 : Nat) : Int) six (or8 a v) b else addr_Of.l0 k l (n : Int) ((i + 1 : Nat) : Int) six a (or8 b v) := by
  have hrd : rd l (i : Int) = (v : Int) := by unfold rd; rw [Int.toNat_natCast, hv]
  have hw : IntKind.u64.wrap (v : Int) = v := by rw [IntKind.wrap_u64]; omega
  simp only [addr_Of.l0]
  rw [if_pos (by omega), if_pos (by omega), if_pos (by omega), hrd, hw, show (i : Int) + 1 = ((i + 1 : Nat) : Int) by omega, w64 _ (by omega)]
  cases six with
  | true =>
    by_cases h8 : i < 8
    · rw [if_pos rfl, if_pos (by omega), if_pos ⟨rfl, h8⟩]
      rfl
    · rw [if_pos rfl, if_neg (by omega), if_neg (by omega)]
      rfl
  | false =>
    rw [if_neg (by simp), if_neg (by simp)]
    rfl

theorem get_hi (hi lo : Int) (i : Nat) (h : i < 8) : (bytesP true hi lo).getD i 0 = byteAt 56 hi i := by
  rcases (by omega : i = 0 ∨ i = 1 ∨ i = 2 ∨ i = 3 ∨ i = 4 ∨ i = 5 ∨ i = 6 ∨ i = 7) with rfl | rfl | rfl | rfl | rfl | rfl | rfl | rfl <;> rfl
theorem get_lo (hi lo : Int) (i : Nat) (h : i < 8) : (bytesP true hi lo).getD (8 + i) 0 = byteAt 56 lo i := by
  rcases (by omega : i = 0 ∨ i = 1 ∨ i = 2 ∨ i = 3 ∨ i = 4 ∨ i = 5 ∨ i = 6 ∨ i = 7) with rfl | rfl | rfl | rfl | rfl | rfl | rfl | rfl <;> rfl
theorem get_four (lo : Int) (i : Nat) (hl : lo < 4294967296) (h : i < 4) : (bytesP false 0 lo).getD i 0 = byteAt 24 lo i := by
  have e : bytesP false 0 lo = (List.range' 0 4).map (byteAt 24 lo) := by unfold bytesP; rw [if_neg (by simp), if_pos ⟨rfl, hl⟩]
  rw [e]
  rcases (by omega : i = 0 ∨ i = 1 ∨ i = 2 ∨ i = 3) with rfl | rfl | rfl | rfl <;> rfl

theorem or8_next (x top i : Nat) (ht : 8 * i + 8 ≤ top + 8) (hx : x < 2 ^ (top + 8)) (h56 : top ≤ 56) (hi : i = 0 ∨ 1 ≤ i) :
    or8 ((x / 2 ^ (top + 8 - 8 * i) : Nat) : Int) ((x / 2 ^ (top - 8 * i) % 256 : Nat) : Int) = ((x / 2 ^ (top + 8 - 8 * (i + 1)) : Nat) : Int) := by
  have e : top + 8 - 8 * i = (top - 8 * i) + 8 := by omega
  have h1 : x / 2 ^ (top + 8 - 8 * i) < 72057594037927936 := by
    rcases hi with rfl | hi
    · rw [Nat.mul_zero, Nat.sub_zero, Nat.div_eq_of_lt hx]; omega
    · rw [Nat.div_lt_iff_lt_mul (Nat.two_pow_pos _)]
      calc x < 2 ^ (top + 8) := hx
        _ ≤ 2 ^ (56 + (top + 8 - 8 * i)) := Nat.pow_le_pow_right (by omega) (by omega)
        _ = 72057594037927936 * 2 ^ (top + 8 - 8 * i) := by rw [Nat.pow_add]
  rw [or8_big _ _ h1 (Nat.mod_lt _ (by omega)), e, Nat.pow_add, show (2 : Nat) ^ 8 = 256 from rfl, more_bytes]
  congr 3
  omega

open Q in
theorem of_hi (hi lo : Nat) (h1 : hi < 18446744073709551616) (k : Nat) : ∀ d i : Nat, i + d = 8 →
    addr_Of.l0 (k + d) (bytesP true hi lo) ((16 : Nat) : Int) (i : Int) true ((hi / 2 ^ (56 + 8 - 8 * i) : Nat) : Int) 0 = addr_Of.l0 k (bytesP true hi lo) ((16 : Nat) : Int) ((8 : Nat) : Int) true (hi : Int) 0
  | 0, i, h => by
    obtain rfl : i = 8 := by omega
    simp
  | d + 1, i, h => by
    rw [← Nat.add_assoc, of_step (bytesP true hi lo) 16 (k + d) i true _ _ _ rfl (by omega) (by omega) ((get_hi hi lo i (by omega)).trans (byteAt_nat 56 hi i)) (Nat.mod_lt _ (by omega)), if_pos ⟨rfl, by omega⟩, or8_next hi 56 i (by omega) h1 (by omega) (by omega)]
    exact of_hi hi lo h1 k d (i + 1) (by omega)

open Q in
theorem of_lo (hi lo : Nat) (l1 : lo < 18446744073709551616) (k : Nat) : ∀ d i : Nat, i + d = 8 →
    addr_Of.l0 (k + 1 + d) (bytesP true hi lo) ((16 : Nat) : Int) ((8 + i : Nat) : Int) true (hi : Int) ((lo / 2 ^ (56 + 8 - 8 * i) : Nat) : Int) = some (true, (hi : Int), (lo : Int), 0)
  | 0, i, h => by
    obtain rfl : i = 8 := by omega
    simp only [addr_Of.l0]
    rw [if_neg (by omega)]
    simp
  | d + 1, i, h => by
    rw [← Nat.add_assoc, of_step (bytesP true hi lo) 16 (k + 1 + d) (8 + i) true _ _ _ rfl (by omega) (by omega) ((get_lo hi lo i (by omega)).trans (byteAt_nat 56 lo i)) (Nat.mod_lt _ (by omega)), if_neg (by omega), or8_next lo 56 i (by omega) l1 (by omega) (by omega)]
    exact of_lo hi lo l1 k d (i + 1) (by omega)

theorem four_len (lo : Int) (h : lo < 4294967296) : (bytesP false 0 lo).length = 4 := by
  unfold bytesP
  rw [if_neg (by simp), if_pos ⟨rfl, h⟩]
  rfl

open Q in
theorem of_four (lo : Nat) (l1 : lo < 4294967296) (k : Nat) : ∀ d i : Nat, i + d = 4 →
    addr_Of.l0 (k + 1 + d) (bytesP false 0 lo) ((4 : Nat) : Int) (i : Int) false 0 ((lo / 2 ^ (24 + 8 - 8 * i) : Nat) : Int) = some (false, 0, (lo : Int), 0)
  | 0, i, h => by
    obtain rfl : i = 4 := by omega
    simp only [addr_Of.l0]
    rw [if_neg (by omega)]
    simp
  | d + 1, i, h => by
    rw [← Nat.add_assoc, of_step (bytesP false 0 lo) 4 (k + 1 + d) i false _ _ _ (four_len lo (by omega)) (by omega) (by omega) ((get_four lo i (by omega) (by omega)).trans (byteAt_nat 24 lo i)) (Nat.mod_lt _ (by omega)), if_neg (by simp), or8_next lo 24 i (by omega) l1 (by omega) (by omega)]
    exact of_four lo l1 k d (i + 1) (by omega)

/-- B7: what an address is told as in bytes is that address -/
theorem of_bytes (six : Bool) (hi lo : Int) (h0 : 0 ≤ hi) (h1 : hi < 18446744073709551616) (l0 : 0 ≤ lo) (l1 : lo < 18446744073709551616) (hv : six = true ∨ hi = 0 ∧ lo < 4294967296) (k : Nat) (hk : 18 ≤ k) :
    Q.addr_Of.f k (bytesP six hi lo) = some (six, hi, lo, 0) ∧ (((bytesP six hi lo).length : Int) == 16) = six := by
  obtain ⟨m, rfl⟩ := Nat.exists_eq_add_of_le hk
  obtain ⟨hn, rfl⟩ := Int.eq_ofNat_of_zero_le h0
  obtain ⟨ln, rfl⟩ := Int.eq_ofNat_of_zero_le l0
  cases six with
  | true =>
    refine ⟨?_, rfl⟩
    have e : (bytesP true (hn : Int) (ln : Int)).length = 16 := rfl
    unfold Q.addr_Of.f
    rw [e, if_neg (by omega), show 18 + m = (m + 17) + 1 by omega]
    simp only [Q.addr_Of.j0, e]
    rw [if_neg (by decide)]
    have h := of_hi hn ln (by omega) (m + 1 + 8) 8 0 (by omega)
    rw [Nat.div_eq_of_lt (by omega)] at h
    have h2 := of_lo hn ln (by omega) m 8 0 (by omega)
    rw [Nat.div_eq_of_lt (by omega)] at h2
    exact h.trans h2
  | false =>
    obtain ⟨h2, h3⟩ := hv.resolve_left (by simp)
    rw [h2]
    have e : (bytesP false 0 (ln : Int)).length = 4 := four_len _ h3
    refine ⟨?_, by rw [e]; rfl⟩
    unfold Q.addr_Of.f
    rw [e, if_pos (show ((4 : Nat) : Int) = 4 from rfl), show 18 + m = (m + 17) + 1 by omega]
    simp only [Q.addr_Of.j0, e]
    rw [if_neg (by decide)]
    have h := of_four ln (by omega) (m + 12) 4 0 (by omega)
    rw [Nat.div_eq_of_lt (by omega)] at h
    exact h
end Go.Proofs.YtaekcldkfkiekaaDoor
