/- What strings.Split answers at a separator of one byte, and strings.Join. Conditions: Split's text is shorter than 4294967281 bytes; Join's result has at most 2^47 bytes. -/
import Derived.Test.YtaekcldkfkiekaaDoorXGv
namespace Go.Proofs.YtaekcldkfkiekaaDoor
open Go.RowKit Go.Proofs.YtaekcldkfkiekaaDoorW.PrintWords

def ofL (l : List UInt8) : ByteArray := ⟨l.toArray⟩
theorem ofL_toList (s : ByteArray) : ofL s.data.toList = s := by cases s; rfl
theorem ofL_data (l : List UInt8) : (ofL l).data.toList = l := by simp [ofL]
theorem ofL_size (l : List UInt8) : (ofL l).size = l.length := by simp [ofL, ByteArray.size]

def splitOn (c : UInt8) : List UInt8 → List (List UInt8)
  | [] => [[]]
  | x :: xs => if x = c then [] :: splitOn c xs else
    match splitOn c xs with
    | [] => [[x]]
    | p :: ps => (x :: p) :: ps

theorem splitOn_ne (c : UInt8) (l : List UInt8) : splitOn c l ≠ [] := by
  cases l with
  | nil => simp [splitOn]
  | cons x xs =>
    unfold splitOn
    split
    · simp
    · split <;> simp

/-- cut at the first place -/
theorem splitOn_none (c : UInt8) : ∀ l : List UInt8, c ∉ l → splitOn c l = [l]
  | [], _ => rfl
  | x :: xs, h => by
    unfold splitOn
    rw [if_neg (by intro e; subst e; simp at h), splitOn_none c xs (by intro e; exact h (List.mem_cons_of_mem _ e))]

theorem splitOn_hit (c : UInt8) : ∀ (a b : List UInt8), c ∉ a → splitOn c (a ++ c :: b) = a :: splitOn c b
  | [], b, _ => by simp [splitOn]
  | x :: xs, b, h => by
    rw [List.cons_append]
    conv => lhs; unfold splitOn
    rw [if_neg (by intro e; subst e; simp at h), splitOn_hit c xs b (by intro e; exact h (List.mem_cons_of_mem _ e))]

theorem index_byte_none (c : UInt8) : ∀ l : List UInt8, Lib.indexByte l c = -1 → c ∉ l
  | [], _ => by simp
  | b :: l, h => by
    unfold Lib.indexByte at h
    by_cases e : b = c
    · subst e; simp at h
    · have he : (b == c) = false := by simpa using e
      have hge := Lib.indexByte_ge l c
      rw [he] at h
      simp only [Bool.false_eq_true, if_false] at h
      by_cases h1 : Lib.indexByte l c = -1
      · have := index_byte_none c l h1
        simp [this, Ne.symm e]
      · rw [if_neg (by simpa using h1)] at h; omega

theorem index_byte_hit (c : UInt8) : ∀ (l : List UInt8) (i : Nat), Lib.indexByte l c = i → c ∉ l.take i ∧ l = l.take i ++ c :: l.drop (i + 1)
  | [], i, h => by simp [Lib.indexByte] at h
  | b :: l, i, h => by
    unfold Lib.indexByte at h
    by_cases e : b = c
    · subst e; simp at h
      obtain rfl : i = 0 := by omega
      simp
    · have he : (b == c) = false := by simpa using e
      have hge := Lib.indexByte_ge l c
      rw [he] at h
      simp only [Bool.false_eq_true, if_false] at h
      by_cases h1 : Lib.indexByte l c = -1
      · rw [if_pos (by simpa using h1)] at h; omega
      · rw [if_neg (by simpa using h1)] at h
        obtain ⟨j, hj⟩ : ∃ j : Nat, Lib.indexByte l c = j := ⟨(Lib.indexByte l c).toNat, by omega⟩
        obtain rfl : i = j + 1 := by omega
        obtain ⟨h2, h3⟩ := index_byte_hit c l j hj
        refine ⟨by simp [h2, Ne.symm e], ?_⟩
        simp only [List.take_succ_cons, List.drop_succ_cons, List.cons_append]
        rw [← h3]

theorem splitK_on (c : UInt8) : ∀ (k : Nat) (l : List UInt8), l.count c = k → Lib.splitK [c] 0 k l = splitOn c l
  | 0, l, h => by
    unfold Lib.splitK
    rw [splitOn_none c l (List.count_eq_zero.1 h)]
  | k + 1, l, h => by
    unfold Lib.splitK
    rw [Lib.index_one]
    have hm : ¬ Lib.indexByte l c = -1 := fun e => by
      have := List.count_eq_zero.2 (index_byte_none c l e)
      omega
    rw [if_neg (by simpa using hm)]
    have hge := Lib.indexByte_ge l c
    obtain ⟨j, hj⟩ : ∃ j : Nat, Lib.indexByte l c = j := ⟨(Lib.indexByte l c).toNat, by omega⟩
    obtain ⟨h2, h3⟩ := index_byte_hit c l j hj
    rw [hj]
    simp only [Int.toNat_natCast, Nat.add_zero, List.length_cons, List.length_nil, Nat.zero_add]
    have hc : (l.drop (j + 1)).count c = k := by
      have : l.count c = (l.take j ++ c :: l.drop (j + 1)).count c := by rw [← h3]
      rw [List.count_append, List.count_cons_self, List.count_eq_zero.2 h2] at this
      omega
    rw [splitK_on c k _ hc]
    conv => rhs; rw [h3]
    rw [splitOn_hit c _ _ h2]

theorem splitB_on (c : UInt8) (s : ByteArray) : Lib.splitB ⟨#[c]⟩ 0 (Lib.countB s ⟨#[c]⟩) s = (splitOn c s.data.toList).map ofL := by
  have h := Lib.splitB_data ⟨#[c]⟩ 0 (Lib.countB s ⟨#[c]⟩) s
  have h1 : Lib.countB s ⟨#[c]⟩ = s.data.toList.count c := Lib.count_one c _
  have h2 : Lib.splitK [c] 0 (Lib.countB s ⟨#[c]⟩) s.data.toList = splitOn c s.data.toList := splitK_on c _ _ h1.symm
  have h3 := congrArg (List.map ofL) (h.trans h2)
  rw [List.map_map] at h3
  rw [← h3]
  conv => lhs; rw [← List.map_id (Lib.splitB ⟨#[c]⟩ 0 (Lib.countB s ⟨#[c]⟩) s)]
  exact List.map_congr_left fun x _ => (ofL_toList x).symm

def strings_Split.f (a0 : ByteArray) (a1 : ByteArray) : Option (List ByteArray) :=
  match a1.data.toList with
  | [c] => if a0.size < 4294967281 then some ((splitOn c a0.data.toList).map ofL) else none
  | _ => none

theorem strings_Split.calls (a0 : ByteArray) (a1 : ByteArray) (r : List ByteArray) (w : World) (h : strings_Split.f a0 a1 = some r) (hG : GV w) :
    Calls Tryd.prog 40 #[.string a0, .string a1] w fun e w' => ∃ v0_ : Value, e = .returned (v0_) ∧ Kd.R Kd.string 9 w' w.heap.size (fun _ => True) v0_ r ∧ Below w.heap.size w w' := by
  unfold strings_Split.f at h
  split at h
  case h_2 => cases h
  rename_i c hc
  split at h
  case isFalse => cases h
  rename_i hs
  obtain rfl : a1 = ⟨#[c]⟩ := by
    cases a1 with | mk d => cases d with | mk l => simp at hc; subst hc; rfl
  obtain rfl := Option.some.inj h
  have hl := Lib.splitB_all ⟨#[c]⟩ (Nat.le_refl 1 : 1 ≤ (⟨#[c]⟩ : ByteArray).size) 0 _ a0 rfl
  refine (Tryd.strings_Split_shaped a0 ⟨#[c]⟩ w hG.shaped hs (Nat.le_refl 1 : 1 ≤ (⟨#[c]⟩ : ByteArray).size)).mono ?_
  rintro e w' ⟨he, hw⟩
  rw [splitB_on] at hw hl
  subst hw
  refine ⟨_, he, ?_, (Below.refl _ _).alloc (Nat.le_refl _) _⟩
  have hcount : Lib.countB a0 ⟨#[c]⟩ ≤ a0.size := Lib.countB_le ⟨#[c]⟩ (Nat.le_refl 1 : 1 ≤ (⟨#[c]⟩ : ByteArray).size) _ a0 (Nat.le_refl _)
  refine Kd.R_of_own (enc := Value.string) ?_ (fun _ _ => trivial)
  refine ⟨by simp [encs], .inr ⟨w.heap.size, Lib.countB a0 ⟨#[c]⟩ + 1, (((splitOn c a0.data.toList).map ofL).map Value.string).toArray, by rw [hl], Nat.le_refl _, by show (w.heap.push _)[w.heap.size]? = _; simp, by omega, ?_, ?_, ?_⟩⟩
  · unfold maxLen; omega
  · simpa using hl
  · have hl' : (splitOn c a0.data.toList).length = Lib.countB a0 ⟨#[c]⟩ + 1 := by simpa using hl
    simp only [encs, Nat.mul_one]
    exact List.take_of_length_le (by simp)

theorem addr_of_cell {w : World} {a : Addr} {v : Value} (h : w.cell? (a.add 0) = some v) : ∃ b o, b < w.heap.size ∧ a = ⟨b, o, none⟩ := by
  obtain ⟨b, o, s⟩ := a
  simp only [Addr.add, if_true] at h
  refine ⟨b, o, ?_, ?_⟩
  · rcases Nat.lt_or_ge b w.heap.size with hb | hb
    · exact hb
    · simp [World.cell?, Array.getElem?_eq_none hb] at h
  · unfold World.cell? at h
    split at h
    · cases s with
      | none => rfl
      | some _ => simp at h
    · cases h

theorem addr_add (b o n : Nat) : (⟨b, o, none⟩ : Addr).add n = ⟨b, o + n, none⟩ := by
  unfold Addr.add
  split
  · rename_i h; subst h; rfl
  · rfl

theorem hget_cell {w : World} {ad : Addr} {l : List ByteArray}
    (hget : ∀ j p, l[j]? = some p → ∃ c, c.length = Kd.string.sz ∧ Kd.string.K w p c ∧ ∀ i u, c[i]? = some u → w.cell? (ad.add (j * Kd.string.sz + i)) = some u) (j : Nat) (x : ByteArray) (h : l[j]? = some x) :
    w.cell? (ad.add j) = some (.string x) := by
  obtain ⟨c, _, hk, hc⟩ := hget j x h
  have hk' : c = [Value.string x] := hk
  subst hk'
  have := hc 0 (.string x) rfl
  have e : j * Kd.string.sz + 0 = j := by show j * 1 + 0 = j; omega
  rwa [e] at this

def strings_Join.f (l0 : List ByteArray) (a1 : ByteArray) : Option (ByteArray) :=
  if l0.length ≤ 140737488355328 ∧ (Lib.join (l0.map (·.data.toList)) a1.data.toList).length ≤ 140737488355328 then some (ofL (Lib.join (l0.map (·.data.toList)) a1.data.toList)) else none

theorem strings_Join.calls (A0 : Option Addr) (c0 : Nat) (l0 : List ByteArray) (a1 : ByteArray) (r : ByteArray) (w : World) (hr0 : Kd.C Kd.string w A0 l0.length l0) (hc0 : l0.length ≤ c0) (h : strings_Join.f l0 a1 = some r) :
    Calls Tryd.prog 33 #[.slice A0 l0.length c0, .string a1] w fun e w' => e = .returned (.string r) ∧ Below w.heap.size w w' := by
  unfold strings_Join.f at h
  split at h
  case isFalse => cases h
  rename_i hh
  obtain rfl := Option.some.inj h
  cases l0 with
  | nil =>
    refine (Tryd.strings_Join_none A0 c0 a1 w).mono ?_
    rintro e w' ⟨he, rfl⟩
    exact ⟨he.trans rfl, Below.refl _ _⟩
  | cons x xs =>
    obtain ⟨_, _, hcell⟩ := hr0
    obtain ⟨ad, rfl, hget⟩ := hcell (by simp)
    obtain ⟨bk, o, hbk, rfl⟩ := addr_of_cell (hget_cell hget 0 x rfl)
    have hcells : ∀ (j : Nat) y, (x :: xs)[j]? = some y → w.cell? ⟨bk, o + j, none⟩ = some (.string y) := fun j y hy => by
      have := hget_cell hget j y hy
      rwa [addr_add] at this
    refine (Tryd.strings_Join bk o c0 (x :: xs) a1 w hcells hbk hh.1 hc0 hh.2).mono ?_
    rintro e w' ⟨he, hb⟩
    exact ⟨he, hb⟩
end Go.Proofs.YtaekcldkfkiekaaDoor
