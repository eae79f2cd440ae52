/- What the printed functions 'row' and 'four' come to, as plain lists. No condition but a text shorter than 4294967281 bytes. -/
import Derived.Test.YtaekcldkfkiekaaDoorQ12
import Derived.Test.YtaekcldkfkiekaaDoorQ13
namespace Go.Proofs.YtaekcldkfkiekaaDoor
open Go.RowKit Go.Proofs.YtaekcldkfkiekaaDoorW.PrintWords Go.Proofs.YtaekcldkfkiekaaDoorW.PrintLast Go.Proofs.YtaekcldkfkiekaaDoorW.PrintMore

/-- digits of a base, at least one, at most so many -/
def numP (b most : Nat) (l : List UInt8) : Option Nat := if l.length = 0 ∨ most < l.length then none else num b 0 l

theorem numberOf_eq (s : ByteArray) (b most : Nat) : numberOf s b most = (match numP b most s.data.toList with | some n => ((n : Int), true) | none => (0, false)) := by
  unfold numberOf numP
  have e : s.size = s.data.toList.length := Array.length_toList.symm
  rw [e]
  by_cases h : s.data.toList.length = 0 ∨ most < s.data.toList.length
  · rw [if_pos h, if_pos (by omega)]
  · rw [if_neg h, if_neg (by omega)]
    rfl

theorem num_lt (b : Nat) : ∀ (l : List UInt8) (n m k : Nat), n < b ^ k → num b n l = some m → m < b ^ (k + l.length)
  | [], n, m, k, h, e => by
    simp only [num, Option.some.injEq] at e
    subst e; simpa using h
  | c :: cs, n, m, k, h, e => by
    simp only [num] at e
    split at e
    · cases e
    · rename_i d hd
      split at e
      · rename_i hb
        have := num_lt b cs (n * b + d) m (k + 1) (by
          rw [Nat.pow_succ]
          have : (n + 1) * b ≤ b ^ k * b := Nat.mul_le_mul_right b h
          rw [Nat.add_mul] at this
          omega) e
        rw [List.length_cons, show k + (cs.length + 1) = k + 1 + cs.length by omega]
        exact this
      · cases e

theorem numP_lt {b most : Nat} {l : List UInt8} {n : Nat} (h : numP b most l = some n) (hb : 0 < b) : n < b ^ most := by
  unfold numP at h
  split at h
  · cases h
  · rename_i hc
    have h1 := num_lt b l 0 n 0 (by simp) h
    rw [Nat.zero_add] at h1
    exact Nat.lt_of_lt_of_le h1 (Nat.pow_le_pow_right hb (by omega))

theorem number16 (s : ByteArray) : addr_number.f s 16 4 = some (match numP 16 4 s.data.toList with | some n => ((n : Int), true) | none => (0, false)) := by
  unfold addr_number.f
  rw [if_pos ⟨.inr rfl, by omega⟩]
  exact congrArg some (numberOf_eq s 16 4)

theorem number10 (s : ByteArray) : addr_number.f s 10 3 = some (match numP 10 3 s.data.toList with | some n => ((n : Int), true) | none => (0, false)) := by
  unfold addr_number.f
  rw [if_pos ⟨.inl rfl, by omega⟩]
  exact congrArg some (numberOf_eq s 10 3)

theorem wrap64_nat {n : Nat} (h : n < 9223372036854775808) : wrap64 (n : Int) = n := by unfold wrap64; omega

theorem rdOf_nat {l : List ByteArray} {i : Nat} (h : i < l.length) : rdOf ByteArray.empty l (i : Int) = l[i] := by
  unfold rdOf
  simp [List.getD, List.getElem?_eq_getElem h]

/-- groups with colons between -/
def rowP (l : List UInt8) : Option (List Nat) := if l = [] then some [] else (splitOn 58 l).mapM (numP 16 4)

def rowRes : Option (List Nat) → List Int × Bool
  | some ns => (ns.map fun n : Nat => (n : Int), true)
  | none => ([], false)

open Q in
theorem row_loop (l : List ByteArray) (hl : l.length < 4294967282) : ∀ (d i : Nat) (acc : List Nat) (k : Nat), i + d = l.length → d < k → acc.length = i →
    addr_row.l0 k (acc.map fun n : Nat => (n : Int)) l (l.length : Int) (i : Int) = some (rowRes (((l.drop i).mapM fun s => numP 16 4 s.data.toList).map (acc ++ ·))) := by
  intro d
  induction d with
  | zero =>
    intro i acc k hi hk ha
    obtain ⟨k, rfl⟩ : ∃ m, k = m + 1 := ⟨k - 1, by omega⟩
    simp only [addr_row.l0]
    rw [if_neg (by omega), List.drop_eq_nil_of_le (by omega)]
    simp [rowRes]
  | succ d ih =>
    intro i acc k hi hk ha
    obtain ⟨k, rfl⟩ : ∃ m, k = m + 1 := ⟨k - 1, by omega⟩
    have hlt : i < l.length := by omega
    simp only [addr_row.l0]
    rw [if_pos (by omega), if_pos (by omega), if_pos (by omega), rdOf_nat hlt, number16]
    simp only [Option.bind_some]
    rw [List.drop_eq_getElem_cons hlt, List.mapM_cons]
    cases hn : numP 16 4 l[i].data.toList with
    | none => simp [rowRes]
    | some n =>
      have hn' := numP_lt hn (by omega)
      simp only [if_true]
      rw [if_pos (by simp; omega)]
      have hw : IntKind.u16.wrap (n : Int) = n := by rw [IntKind.wrap_u16]; omega
      rw [hw, show wrap64 ((i : Int) + 1) = ((i + 1 : Nat) : Int) by unfold wrap64; omega]
      have := ih (i + 1) (acc ++ [n]) k (by omega) (by omega) (by simp; omega)
      simp only [List.map_append, List.map_cons, List.map_nil] at this
      rw [this]
      cases (l.drop (i + 1)).mapM fun s => numP 16 4 s.data.toList with
      | none => simp [rowRes]
      | some ns => simp [rowRes]

theorem splitOn_length (c : UInt8) : ∀ l : List UInt8, (splitOn c l).length ≤ l.length + 1
  | [] => by simp [splitOn]
  | x :: xs => by
    have ih := splitOn_length c xs
    have hn := splitOn_ne c xs
    unfold splitOn
    split
    · simp only [List.length_cons]; omega
    · split
      · simp
      · rename_i p ps hp
        rw [hp] at ih
        simp only [List.length_cons] at ih ⊢
        omega

theorem mapM_ofL {β : Type} (f : List UInt8 → Option β) (l : List (List UInt8)) : (l.map ofL).mapM (fun s => f s.data.toList) = l.mapM f := by
  induction l with
  | nil => rfl
  | cons x xs ih => simp only [List.map_cons, List.mapM_cons, ofL_data, ih]

theorem split_at (s : ByteArray) (c : UInt8) (h : s.size < 4294967281) : strings_Split.f s ⟨#[c]⟩ = some ((splitOn c s.data.toList).map ofL) := by
  unfold strings_Split.f
  simp only []
  rw [if_pos h]

theorem toList_nil (s : ByteArray) : s.toList = [] ↔ s.data.toList = [] := by
  rw [ByteArray.toList_eq]

open Q in
theorem row_f (s : ByteArray) (h : s.size < 4294967281) (k : Nat) (hk : s.size + 1 < k) : addr_row.f k s = some (rowRes (rowP s.data.toList)) := by
  have hs : s.data.toList.length = s.size := Array.length_toList
  unfold addr_row.f rowP
  by_cases h0 : s.toList = []
  · rw [if_pos h0, if_pos ((toList_nil s).1 h0)]; rfl
  · rw [if_neg h0, if_neg (fun e => h0 ((toList_nil s).2 e)), split_at s 58 h]
    simp only [Option.bind_some]
    have hl := splitOn_length 58 s.data.toList
    have := row_loop ((splitOn 58 s.data.toList).map ofL) (by simp; omega) ((splitOn 58 s.data.toList).map ofL).length 0 [] k (by omega) (by simp; omega) rfl
    simp only [List.map_nil, List.drop_zero, List.nil_append] at this
    rw [show ((0 : Nat) : Int) = 0 from rfl] at this
    rw [this, mapM_ofL]
    simp

/-- a number of four: at most 255, without a nought ahead -/
def octP (l : List UInt8) : Option Nat :=
  match numP 10 3 l with
  | some n => if 255 < n then none else if 1 < l.length ∧ l.head? = some 48 then none else some n
  | none => none

def or8 (x n : Int) : Int := Go.bits .or .u64 (IntKind.u64.wrap (x * 256)) n

def foldNat (x : Int) : List Nat → Int
  | [] => x
  | n :: ns => foldNat (or8 x n) ns

open Q in
theorem four_loop (l : List ByteArray) (hl : l.length < 4294967282) : ∀ (d i : Nat) (x : Int) (k : Nat), i + d = l.length → d < k →
    ∃ r, addr_four.l0 k l l (l.length : Int) (i : Int) false 0 x = some r ∧
      (match (l.drop i).mapM fun s => octP s.data.toList with
       | some ns => r = (false, 0, foldNat x ns, ((l.length : Int) == 4))
       | none => r = (false, 0, 0, false)) := by
  intro d
  induction d with
  | zero =>
    intro i x k hi hk
    obtain ⟨k, rfl⟩ : ∃ m, k = m + 1 := ⟨k - 1, by omega⟩
    refine ⟨_, by simp only [addr_four.l0]; rw [if_neg (by omega)], ?_⟩
    rw [List.drop_eq_nil_of_le (by omega)]
    rfl
  | succ d ih =>
    intro i x k hi hk
    obtain ⟨k, rfl⟩ : ∃ m, k = m + 1 := ⟨k - 1, by omega⟩
    have hlt : i < l.length := by omega
    simp only [addr_four.l0]
    rw [if_pos (by omega), if_pos (by omega), if_pos (by omega), rdOf_nat hlt, number10]
    simp only [Option.bind_some]
    rw [List.drop_eq_getElem_cons hlt, List.mapM_cons]
    generalize l[i] = s
    have hs : s.data.toList.length = s.size := Array.length_toList
    have ho : octP s.data.toList = (match numP 10 3 s.data.toList with
      | some n => if 255 < n then none else if 1 < s.data.toList.length ∧ s.data.toList.head? = some 48 then none else some n
      | none => none) := rfl
    rw [ho]
    clear ho
    cases hn : numP 10 3 s.data.toList with
    | none => exact ⟨(false, 0, 0, false), by simp, rfl⟩
    | some n =>
      simp only [if_true]
      by_cases h255 : 255 < n
      · rw [if_pos (by omega), if_pos h255]
        exact ⟨_, rfl, rfl⟩
      · rw [if_neg (by omega), if_neg h255]
        obtain ⟨r, hr, hm⟩ := ih (i + 1) (or8 x n) k (by omega) (by omega)
        have hw : wrap64 ((i : Int) + 1) = ((i + 1 : Nat) : Int) := by unfold wrap64; omega
        have hpos : 0 < s.size := by
          unfold numP at hn
          split at hn
          · cases hn
          · omega
        have hbt : bt s 0 = 48 ↔ s.data.toList.head? = some 48 := by
          unfold bt
          rw [dif_pos (show (0 : Int).toNat < s.size from hpos)]
          show ((s[0]'hpos).toNat : Int) = 48 ↔ _
          rw [List.head?_eq_getElem?, List.getElem?_eq_getElem (by omega)]
          show ((s[0]'hpos).toNat : Int) = 48 ↔ some (s[0]'hpos) = some 48
          rw [Option.some.injEq, ← UInt8.toNat_inj]
          show _ ↔ (s[0]'hpos).toNat = 48
          omega
        by_cases h1 : 1 < s.size
        · rw [if_pos (by omega), if_pos (by omega)]
          by_cases h48 : bt s 0 = 48
          · rw [if_pos h48, if_pos ⟨by omega, hbt.1 h48⟩]
            exact ⟨_, rfl, rfl⟩
          · rw [if_neg h48, if_neg (fun e => h48 (hbt.2 e.2)), hw]
            refine ⟨r, hr, ?_⟩
            revert hm
            cases (l.drop (i + 1)).mapM fun s => octP s.data.toList <;> exact fun h => h
        · rw [if_neg (by omega), if_neg (by omega), hw]
          refine ⟨r, hr, ?_⟩
          revert hm
          cases (l.drop (i + 1)).mapM fun s => octP s.data.toList <;> exact fun h => h

theorem or8_nat (x n : Nat) (hx : x < 16777216) (hn : n ≤ 255) : or8 x n = ((x * 256 + n : Nat) : Int) := by
  unfold or8
  rw [show IntKind.u64.wrap ((x : Int) * 256) = ((x * 256 : Nat) : Int) by rw [IntKind.wrap_u64]; omega]
  rw [u64_or_nat _ _ (by omega) (by omega)]
  congr 1
  have h := Nat.two_pow_add_eq_or_of_lt (i := 8) (b := n) (by omega) x
  simp only [show (2 : Nat) ^ 8 = 256 from rfl] at h
  rw [Nat.mul_comm x 256, ← h]

theorem octP_le {l : List UInt8} {n : Nat} (h : octP l = some n) : n ≤ 255 := by
  unfold octP at h
  split at h
  · split at h
    · cases h
    · split at h
      · cases h
      · rename_i h1 _
        simp only [Option.some.injEq] at h
        omega
  · cases h

theorem mapM_all {α β : Type} {f : α → Option β} : ∀ {l : List α} {r : List β}, l.mapM f = some r → r.length = l.length ∧ ∀ y ∈ r, ∃ x ∈ l, f x = some y
  | [], r, h => by
    simp only [List.mapM_nil, Option.pure_def, Option.some.injEq] at h
    subst h; exact ⟨rfl, by simp⟩
  | x :: l, r, h => by
    simp only [List.mapM_cons, Option.bind_eq_bind, Option.bind_eq_some_iff, Option.pure_def, Option.some.injEq] at h
    obtain ⟨b, hb, r', hr', rfl⟩ := h
    obtain ⟨h1, h2⟩ := mapM_all hr'
    refine ⟨by simp [h1], fun y hy => ?_⟩
    rcases List.mem_cons.1 hy with rfl | hy
    · exact ⟨x, by simp, hb⟩
    · obtain ⟨z, hz, e⟩ := h2 y hy
      exact ⟨z, by simp [hz], e⟩

/-- four numbers with dots between, as one -/
def fourP (l : List UInt8) : Option Nat :=
  match (splitOn 46 l).mapM octP with
  | some [a, b, c, d] => some (((a * 256 + b) * 256 + c) * 256 + d)
  | _ => none

open Q in
theorem four_f (s : ByteArray) (h : s.size < 4294967281) (k : Nat) (hk : s.size + 1 < k) :
    ∃ r, addr_four.f k s = some r ∧ (match fourP s.data.toList with
      | some v => r = (false, 0, (v : Int), true)
      | none => r.2.2.2 = false) := by
  have hs : s.data.toList.length = s.size := Array.length_toList
  unfold addr_four.f
  rw [split_at s 46 h]
  simp only [Option.bind_some]
  have hl := splitOn_length 46 s.data.toList
  obtain ⟨r, hr, hm⟩ := four_loop ((splitOn 46 s.data.toList).map ofL) (by simp; omega) ((splitOn 46 s.data.toList).map ofL).length 0 0 k (by omega) (by simp; omega)
  rw [show ((0 : Nat) : Int) = 0 from rfl] at hr
  refine ⟨r, hr, ?_⟩
  rw [List.drop_zero, mapM_ofL] at hm
  unfold fourP
  cases hx : (splitOn 46 s.data.toList).mapM octP with
  | none =>
    rw [hx] at hm
    simp only at hm ⊢
    rw [hm]
  | some ns =>
    rw [hx] at hm
    obtain ⟨hlen, hall⟩ := mapM_all hx
    have hb : ∀ n ∈ ns, n ≤ 255 := fun n hn => by
      obtain ⟨x, _, e⟩ := hall n hn
      exact octP_le e
    simp only at hm
    match ns, hlen, hb, hm with
    | [a, b, c, d], hlen, hb, hm =>
      have ha := hb a (by simp); have hb' := hb b (by simp); have hc := hb c (by simp); have hd := hb d (by simp)
      have e0 : or8 0 (a : Int) = (a : Int) := by simpa using or8_nat 0 a (by omega) ha
      simp only [foldNat, e0] at hm
      rw [or8_nat a b (by omega) hb', or8_nat _ c (by omega) hc, or8_nat _ d (by omega) hd] at hm
      simp only []
      rw [hm]
      simp [← hlen]
    | [], hlen, _, hm => simp only []; rw [hm]; simp [← hlen]
    | [_], hlen, _, hm => simp only []; rw [hm]; simp [← hlen]
    | [_, _], hlen, _, hm => simp only []; rw [hm]; simp [← hlen]
    | [_, _, _], hlen, _, hm => simp only []; rw [hm]; simp [← hlen]
    | _ :: _ :: _ :: _ :: _ :: _, hlen, _, hm => simp only []; rw [hm]; simp [← hlen]; omega
end Go.Proofs.YtaekcldkfkiekaaDoor
