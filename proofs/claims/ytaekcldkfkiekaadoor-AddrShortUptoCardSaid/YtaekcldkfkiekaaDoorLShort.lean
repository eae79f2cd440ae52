/- AddrShort: what a text is read as is told by a text that is at most one byte longer. Plain law. No condition. -/
import Derived.Test.YtaekcldkfkiekaaDoorLSix
namespace Go.Proofs.YtaekcldkfkiekaaDoor

theorem join_splitOn (c : UInt8) : ∀ l : List UInt8, Lib.join (splitOn c l) [c] = l
  | [] => rfl
  | x :: xs => by
    have ih := join_splitOn c xs
    unfold splitOn
    split
    · rename_i h
      subst h
      cases hs : splitOn x xs with
      | nil => exact absurd hs (splitOn_ne x xs)
      | cons p ps =>
        rw [hs] at ih
        rw [join_cons2, ih]
        rfl
    · split
      · rename_i hs
        exact absurd hs (splitOn_ne c xs)
      · rename_i p ps hs
        rw [hs] at ih
        cases ps with
        | nil => rw [Lib.join_one] at ih ⊢; rw [ih]
        | cons q ps => rw [join_cons2] at ih ⊢; rw [List.cons_append, ih]

/-- what the parts of a text take -/
def lensum (ps : List (List UInt8)) : Nat := (ps.map List.length).sum

theorem join_len_eq (c : UInt8) : ∀ ps : List (List UInt8), (Lib.join ps [c]).length + 1 = lensum ps + ps.length ∨ ps = []
  | [] => Or.inr rfl
  | [p] => Or.inl (by rw [Lib.join_one]; simp [lensum])
  | p :: q :: ps => by
    rcases join_len_eq c (q :: ps) with h | h
    · refine Or.inl ?_
      rw [join_cons2]
      simp only [List.length_append, List.length_cons, lensum, List.map_cons, List.sum_cons] at h ⊢
      omega
    · cases h

/-- what the digits of numbers take -/
def hexsum (l : List Nat) : Nat := (l.map fun n => (hx n).length).sum

theorem hexsum_append (a b : List Nat) : hexsum (a ++ b) = hexsum a + hexsum b := by simp [hexsum]
theorem hexsum_zeros (z : Nat) : hexsum (List.replicate z 0) = z := by
  unfold hexsum
  rw [List.map_replicate, show (hx 0).length = 1 from rfl]
  simp

theorem hx_min (n k : Nat) (h : n < 16 ^ k) (h1 : 1 ≤ k) (h4 : k ≤ 4) : (hx n).length ≤ k := by
  have e : (hx n).length = (if n < 16 then 1 else if n < 256 then 2 else if n < 4096 then 3 else 4) := by
    show ((hexn n _).map _).length = _
    rw [List.length_map, hexn_length]
  rw [e]
  rcases (by omega : k = 1 ∨ k = 2 ∨ k = 3 ∨ k = 4) with rfl | rfl | rfl | rfl
  · rw [if_pos (by omega)]; omega
  · split
    · omega
    · first | omega | (rw [if_pos (by omega)]; omega)
  · split
    · omega
    · split
      · omega
      · first | omega | (rw [if_pos (by omega)]; omega)
  · split
    · omega
    · split
      · omega
      · split <;> omega

theorem numP_hex {p : List UInt8} {n : Nat} (h : numP 16 4 p = some n) : (hx n).length ≤ p.length ∧ n < 65536 := by
  obtain ⟨h0, h1, h2⟩ := numP_ne h
  have hp : 1 ≤ p.length := by
    cases p with
    | nil => exact absurd rfl h0
    | cons _ _ => simp
  have := num_lt 16 p 0 n 0 (by omega) h2
  rw [Nat.zero_add] at this
  exact ⟨hx_min n p.length this hp h1, numP_lt h (by omega)⟩

theorem mapM_hex : ∀ {ps : List (List UInt8)} {ns : List Nat}, ps.mapM (numP 16 4) = some ns → ns.length = ps.length ∧ hexsum ns ≤ lensum ps ∧ ∀ n ∈ ns, n < 65536
  | [], ns, h => by
    simp only [List.mapM_nil, Option.pure_def, Option.some.injEq] at h
    subst h
    simp [hexsum, lensum]
  | p :: ps, ns, h => by
    rw [List.mapM_cons] at h
    simp only [Option.bind_eq_bind, Option.bind_eq_some_iff, Option.pure_def, Option.some.injEq] at h
    obtain ⟨n, hn, ms, hm, rfl⟩ := h
    obtain ⟨h1, h2, h3⟩ := mapM_hex hm
    obtain ⟨h4, h5⟩ := numP_hex hn
    refine ⟨by simp [h1], ?_, ?_⟩
    · simp only [hexsum, lensum, List.map_cons, List.sum_cons] at h2 ⊢
      omega
    · intro m hm
      rcases List.mem_cons.1 hm with rfl | hm
      · exact h5
      · exact h3 m hm

/-- a row that is read: what its numbers take -/
theorem rowP_hex {l : List UInt8} {x : List Nat} (h : rowP l = some x) : hexsum x + x.length ≤ l.length + 1 ∧ (x = [] → l = []) ∧ ∀ n ∈ x, n < 65536 := by
  unfold rowP at h
  split at h
  · rename_i h0
    obtain rfl := Option.some.inj h
    exact ⟨by simp [hexsum], fun _ => h0, by simp⟩
  · obtain ⟨h1, h2, h3⟩ := mapM_hex h
    have hj := join_len_eq 58 (splitOn 58 l)
    rw [join_splitOn] at hj
    have hne := splitOn_ne 58 l
    have hj := hj.resolve_right hne
    refine ⟨by omega, fun hx => ?_, h3⟩
    rw [hx] at h1
    exact absurd (List.eq_nil_of_length_eq_zero h1.symm) hne

theorem textsP_hex (l : List Nat) : (textsP l).length = hexsum l + l.length - 1 := by
  rw [textsP_join]
  have e : lensum (l.map hx) = hexsum l := by simp [lensum, hexsum, Function.comp_def]
  rcases join_len_eq 58 (l.map hx) with h | h
  · rw [e, List.length_map] at h
    omega
  · have : l = [] := List.map_eq_nil_iff.1 h
    subst this
    rfl

theorem cut_parts (l : List UInt8) : (Lib.cut l [58, 58]).2.2 = true → l.length = (Lib.cut l [58, 58]).1.length + 2 + (Lib.cut l [58, 58]).2.1.length := by
  have hr := Lib.index_room l [58, 58]
  unfold Lib.cut
  split
  · rename_i h
    intro _
    have := hr h
    simp only [List.length_take, List.length_drop, List.length_cons, List.length_nil] at this ⊢
    omega
  · intro h; cases h

theorem cut_whole (l : List UInt8) : (Lib.cut l [58, 58]).2.2 = false → (Lib.cut l [58, 58]).1 = l ∧ (Lib.cut l [58, 58]).2.1 = [] := by
  unfold Lib.cut
  split
  · intro h; cases h
  · intro _; exact ⟨rfl, rfl⟩

/-- what a text of groups takes: with a gap of z, or without one -/
theorem sixP_hex {l : List UInt8} {g : List Nat} (h : sixP l = some g) :
    g.length = 8 ∧ (∀ n ∈ g, n < 65536) ∧ (hexsum g + 7 ≤ l.length ∨ ∃ x y : List Nat, ∃ z, g = x ++ List.replicate z 0 ++ y ∧ x.length + z + y.length = 8 ∧ 1 ≤ z ∧
      2 + (hexsum x + x.length - 1) + (hexsum y + y.length - 1) ≤ l.length) := by
  unfold sixP at h
  split at h
  · rename_i x y hx hy
    obtain ⟨a1, a2, a3⟩ := rowP_hex hx
    obtain ⟨b1, b2, b3⟩ := rowP_hex hy
    split at h
    · rename_i hsh
      split at h
      · rename_i h7
        obtain rfl := Option.some.inj h
        have hl := cut_parts l hsh
        refine ⟨by simp; omega, ?_, Or.inr ⟨x, y, 8 - x.length - y.length, rfl, by omega, by omega, by omega⟩⟩
        intro n hn
        rcases List.mem_append.1 hn with hn | hn
        · rcases List.mem_append.1 hn with hn | hn
          · exact a3 n hn
          · have := List.eq_of_mem_replicate hn; omega
        · exact b3 n hn
      · cases h
    · rename_i hsh
      split at h
      · rename_i h8
        obtain rfl := Option.some.inj h
        obtain ⟨e1, e2⟩ := cut_whole l (by simpa using hsh)
        rw [e2] at hy
        obtain rfl : y = [] := (Option.some.inj hy).symm
        rw [e1] at a1
        refine ⟨by simpa using h8, by simp only [List.append_nil]; exact a3, Or.inl ?_⟩
        simp only [List.append_nil, List.length_nil] at h8 ⊢
        omega
      · cases h
  · cases h

theorem takeWhile_zeros (z : Nat) (y : List Int) : z ≤ ((List.replicate z 0 ++ y).takeWhile (· == (0 : Int))).length := by
  induction z with
  | zero => omega
  | succ z ih => simp [List.replicate_succ]

theorem longest_max (g : List Int) : ∀ n i, i < n → zend g i - i ≤ (longest g n).2 - (longest g n).1
  | n + 1, i, h => by
    unfold longest
    by_cases e : i = n
    · subst e
      split
      · exact Nat.le_refl _
      · omega
    · have ih := longest_max g n i (by omega)
      split
      · show _ ≤ zend g n - n; omega
      · exact ih

/-- the gap is as long as any row of noughts -/
theorem gapOf_max (x y : List Int) (z : Nat) (h8 : x.length + z + y.length = 8) (hz : 2 ≤ z) :
    (gapOf (x ++ List.replicate z 0 ++ y)).1 + z ≤ (gapOf (x ++ List.replicate z 0 ++ y)).2 := by
  have h1 : z ≤ zend (x ++ List.replicate z 0 ++ y) x.length - x.length := by
    unfold zend
    rw [List.append_assoc, List.drop_left]
    have := takeWhile_zeros z y
    omega
  have h2 := longest_max (x ++ List.replicate z 0 ++ y) 8 x.length (by omega)
  have h3 := longest_le (x ++ List.replicate z 0 ++ y) 8 (by simp; omega)
  unfold gapOf
  split
  · show 0 + z ≤ 8; omega
  · split
    · omega
    · omega

theorem groupsN_pack (a b c d e f g h : Nat) (ha : a < 65536) (hb : b < 65536) (hc : c < 65536) (hd : d < 65536) (he : e < 65536) (hf : f < 65536) (hg : g < 65536) (hh : h < 65536) :
    groupsN (pack4 a b c d) (pack4 e f g h) = [a, b, c, d, e, f, g, h] := by
  unfold groupsN pack4
  simp only [List.cons.injEq, and_true]
  omega

theorem list8 {l : List Nat} (h : l.length = 8) : ∃ a b c d e f g i, l = [a, b, c, d, e, f, g, i] := by
  match l, h with
  | [a, b, c, d, e, f, g, i], _ => exact ⟨a, b, c, d, e, f, g, i, rfl⟩

theorem pack_lt {a b c d : Nat} (ha : a < 65536) (hb : b < 65536) (hc : c < 65536) (hd : d < 65536) : pack4 a b c d < 18446744073709551616 := by
  unfold pack4; omega

theorem pack_groups {g : List Nat} (h8 : g.length = 8) (hlt : ∀ n ∈ g, n < 65536) : ∃ hi lo : Nat, packL (intsOf g) = ((hi : Int), (lo : Int)) ∧ groupsN hi lo = g ∧ hi < 18446744073709551616 ∧ lo < 18446744073709551616 := by
  obtain ⟨a, b, c, d, e, f, g, i, rfl⟩ := list8 h8
  simp only [List.mem_cons, List.not_mem_nil, or_false, forall_eq_or_imp, forall_eq] at hlt
  obtain ⟨ha, hb, hc, hd, he, hf, hg, hi⟩ := hlt
  refine ⟨pack4 a b c d, pack4 e f g i, ?_, groupsN_pack a b c d e f g i ha hb hc hd he hf hg hi, pack_lt ha hb hc hd, pack_lt he hf hg hi⟩
  show (or4 _ _ _ _, or4 _ _ _ _) = _
  rw [or4_nat a b c d ha hb hc hd, or4_nat e f g i he hf hg hi]

theorem hexsum_nil {l : List Nat} (h : l.length = 0) : hexsum l = 0 := by
  rw [List.eq_nil_of_length_eq_zero h]; rfl

/-- the text told is at most one byte longer than the one read -/
theorem six_short {l : List UInt8} {hi lo : Nat} (h : sixP l = some (groupsN hi lo)) : (sixTxt hi lo).length ≤ l.length + 1 := by
  obtain ⟨h8, hlt, hc⟩ := sixP_hex h
  have hg := gapOf_cut (groupsOf hi lo) rfl
  have hm : ∀ x y : List Nat, ∀ z, groupsN hi lo = x ++ List.replicate z 0 ++ y → x.length + z + y.length = 8 → 2 ≤ z → (gapOf (groupsOf hi lo)).1 + z ≤ (gapOf (groupsOf hi lo)).2 := by
    intro x y z e hl hz
    have := gapOf_max (intsOf x) (intsOf y) z (by simpa [intsOf] using hl) hz
    rw [← groupsN_ints, e]
    simpa [intsOf] using this
  unfold sixTxt
  generalize gapOf (groupsOf (hi : Int) (lo : Int)) = ft at hg hm ⊢
  obtain ⟨f, t⟩ := ft
  simp only at hg hm ⊢
  rw [← groupsN_ints] at hg
  generalize groupsN hi lo = gs at h8 hlt hc hg hm ⊢
  rcases hg with ⟨h0, h1⟩ | ⟨hcut, h2⟩
  · rw [if_pos h0, textsP_hex, h8]
    rcases hc with hc | ⟨x, y, z, e, hl, hz, hle⟩
    · omega
    · have hz1 : z = 1 := by
        rcases Nat.lt_or_ge z 2 with h3 | h3
        · omega
        · have := hm x y z e hl h3; omega
      subst hz1
      have e2 : hexsum gs = hexsum x + 1 + hexsum y := by rw [e, hexsum_append, hexsum_append, hexsum_zeros]
      omega
  · rw [if_neg (by omega)]
    have ht8 : t ≤ 8 := by have := hcut.le2; simpa [intsOf, h8] using this
    have e1 := cut_nat hcut
    have lt1 : (gs.take f).length = f := by rw [List.length_take, h8]; omega
    have ld1 : (gs.drop t).length = 8 - t := by rw [List.length_drop, h8]
    have e3 : hexsum gs = hexsum (gs.take f) + (t - f) + hexsum (gs.drop t) := by
      conv => lhs; rw [e1]
      rw [hexsum_append, hexsum_append, hexsum_zeros]
    simp only [List.length_append, textsP_hex, lt1, ld1, List.length_cons, List.length_nil]
    have n1 := fun h => hexsum_nil (l := gs.take f) h
    have n2 := fun h => hexsum_nil (l := gs.drop t) h
    rw [lt1] at n1
    rw [ld1] at n2
    rcases hc with hc | ⟨x, y, z, e, hl, hz, hle⟩
    · omega
    · have e2 : hexsum gs = hexsum x + z + hexsum y := by rw [e, hexsum_append, hexsum_append, hexsum_zeros]
      have hzm : z ≤ t - f := by
        rcases Nat.lt_or_ge z 2 with h3 | h3
        · omega
        · have := hm x y z e hl h3; omega
      have n3 := fun h => hexsum_nil (l := x) h
      have n4 := fun h => hexsum_nil (l := y) h
      omega
end Go.Proofs.YtaekcldkfkiekaaDoor
