/-
Texts of numbers, rows with colons, what is cut at "::". Plain law: no program. No condition.
What Print tells is read back by Parse. Plain law. No condition.
The text of eight groups is read back as them. Plain law. No condition.
-/
import Derived.Test.YtaekcldkfkiekaaDoorXPrint
import Derived.Test.YtaekcldkfkiekaaDoorQ14

namespace Go.Proofs.YtaekcldkfkiekaaDoor

/-- a byte is no colon and no dot if it is a digit -/
theorem digOf_ne {c : UInt8} {d : Nat} (h : digOf c = some d) : c ≠ 58 ∧ c ≠ 46 := by
  have h58 : digOf 58 = none := by decide
  have h46 : digOf 46 = none := by decide
  refine ⟨?_, ?_⟩
  · rintro rfl
    rw [h58] at h; cases h
  · rintro rfl
    rw [h46] at h; cases h

theorem num_chars {b : Nat} : ∀ {l : List UInt8} {n m : Nat}, num b n l = some m → ∀ c ∈ l, c ≠ 58 ∧ c ≠ 46
  | [], _, _, _, c, hc => by cases hc
  | x :: xs, n, m, h, c, hc => by
    unfold num at h
    cases hd : digOf x with
    | none => rw [hd] at h; cases h
    | some d =>
      rw [hd] at h
      simp only at h
      split at h
      · rcases List.mem_cons.1 hc with rfl | hc
        · exact digOf_ne hd
        · exact num_chars h c hc
      · cases h

theorem numP_ne {b most : Nat} {l : List UInt8} {n : Nat} (h : numP b most l = some n) : l ≠ [] ∧ l.length ≤ most ∧ num b 0 l = some n := by
  unfold numP at h
  split at h
  · cases h
  · rename_i h1
    refine ⟨?_, by omega, h⟩
    rintro rfl
    simp at h1

theorem numP_chars {b most : Nat} {l : List UInt8} {n : Nat} (h : numP b most l = some n) : ∀ c ∈ l, c ≠ 58 ∧ c ≠ 46 := num_chars (numP_ne h).2.2

/-- parts with one byte between -/
theorem join_cons2 (x y : List UInt8) (r : List (List UInt8)) (c : UInt8) : Lib.join (x :: y :: r) [c] = x ++ c :: Lib.join (y :: r) [c] := by
  simp [Lib.join, List.intercalate, List.intersperse]

theorem splitOn_join (c : UInt8) : ∀ (x : List UInt8) (r : List (List UInt8)), (∀ p ∈ x :: r, c ∉ p) → splitOn c (Lib.join (x :: r) [c]) = x :: r
  | x, [], h => by
    rw [Lib.join_one]
    exact splitOn_none c x (h x (by simp))
  | x, y :: r, h => by
    rw [join_cons2, splitOn_hit c _ _ (h x (by simp)), splitOn_join c y r (fun p hp => h p (List.mem_cons_of_mem _ hp))]

/-- texts of groups, and the groups -/
def Spells : List (List UInt8) → List Nat → Prop
  | [], [] => True
  | p :: ps, n :: ns => numP 16 4 p = some n ∧ Spells ps ns
  | _, _ => False

theorem Spells.mapM : ∀ {ps : List (List UInt8)} {ns : List Nat}, Spells ps ns → ps.mapM (numP 16 4) = some ns
  | [], [], _ => rfl
  | p :: ps, n :: ns, h => by
    rw [List.mapM_cons, h.1, Spells.mapM h.2]
    rfl
  | [], _ :: _, h => h.elim
  | _ :: _, [], h => h.elim

theorem Spells.length : ∀ {ps : List (List UInt8)} {ns : List Nat}, Spells ps ns → ps.length = ns.length
  | [], [], _ => rfl
  | p :: ps, n :: ns, h => by
    rw [List.length_cons, List.length_cons, Spells.length h.2]
  | [], _ :: _, h => h.elim
  | _ :: _, [], h => h.elim

theorem Spells.part : ∀ {ps : List (List UInt8)} {ns : List Nat}, Spells ps ns → ∀ p ∈ ps, p ≠ [] ∧ ∀ c ∈ p, c ≠ 58 ∧ c ≠ 46
  | [], [], _, _, hp => by cases hp
  | p :: ps, n :: ns, h, q, hq => by
    rcases List.mem_cons.1 hq with rfl | hq
    · exact ⟨(numP_ne h.1).1, numP_chars h.1⟩
    · exact Spells.part h.2 q hq
  | [], _ :: _, h, _, _ => h.elim
  | _ :: _, [], h, _, _ => h.elim

theorem join_ne (x : List UInt8) (r : List (List UInt8)) (c : UInt8) (h : x ≠ []) : Lib.join (x :: r) [c] ≠ [] := by
  cases r with
  | nil => rw [Lib.join_one]; exact h
  | cons y r => rw [join_cons2]; simp

theorem rowP_join {ps : List (List UInt8)} {ns : List Nat} (h : Spells ps ns) : rowP (Lib.join ps [58]) = some ns := by
  cases ps with
  | nil =>
    cases ns with
    | nil => rfl
    | cons _ _ => exact h.elim
  | cons p ps =>
    have hp := h.part
    unfold rowP
    rw [if_neg (join_ne _ _ _ (hp p (by simp)).1), splitOn_join 58 p ps (fun q hq hc => ((hp q hq).2 58 hc).1 rfl)]
    exact h.mapM

/-- no two colons behind each other, none at the end, no dot -/
theorem join_plain : ∀ {ps : List (List UInt8)} {ns : List Nat}, Spells ps ns → ∀ i : Nat, (Lib.join ps [58])[i]? = some 58 → ∃ c, (Lib.join ps [58])[i + 1]? = some c ∧ c ≠ 58
  | [], _, _, i, hi => by simp [Lib.join_nil] at hi
  | [p], ns, h, i, hi => by
    rw [Lib.join_one] at hi
    exact absurd rfl ((h.part p (by simp)).2 58 (List.mem_of_getElem? hi)).1
  | p :: q :: ps, [], h, i, hi => h.elim
  | p :: q :: ps, [_], h, i, hi => h.2.elim
  | p :: q :: ps, n :: m :: ns, h, i, hi => by
    have hp := h.part p (by simp)
    have hq := h.part q (by simp)
    rw [join_cons2] at hi ⊢
    rcases Nat.lt_trichotomy i p.length with hlt | heq | hgt
    · rw [List.getElem?_append_left hlt] at hi
      exact absurd rfl (hp.2 58 (List.mem_of_getElem? hi)).1
    · subst heq
      rw [List.getElem?_append_right (by omega), show p.length + 1 - p.length = 1 by omega, List.getElem?_cons_succ]
      cases q with
      | nil => exact absurd rfl hq.1
      | cons c q =>
        refine ⟨c, ?_, (hq.2 c (by simp)).1⟩
        cases ps with
        | nil => rw [Lib.join_one]; rfl
        | cons r ps => rw [join_cons2]; rfl
    · have ih := join_plain h.2 (i - p.length - 1)
      rw [List.getElem?_append_right (by omega), show i - p.length = (i - p.length - 1) + 1 by omega, List.getElem?_cons_succ] at hi
      obtain ⟨c, hc, hne⟩ := ih hi
      refine ⟨c, ?_, hne⟩
      rw [List.getElem?_append_right (by omega), show i + 1 - p.length = (i - p.length - 1) + 1 + 1 by omega, List.getElem?_cons_succ]
      exact hc

theorem occ_two (l : List UInt8) (i : Nat) : Lib.occAt l [58, 58] i = true ↔ l[i]? = some 58 ∧ l[i + 1]? = some 58 := by
  unfold Lib.occAt
  rw [← List.getElem?_drop (i := i) (j := 1) , show l[i]? = (l.drop i)[0]? by rw [List.getElem?_drop, Nat.add_zero]]
  cases l.drop i with
  | nil => simp
  | cons a t =>
    cases t with
    | nil => simp
    | cons b t => simp; constructor <;> (rintro ⟨h1, h2⟩; exact ⟨h1.symm, h2.symm⟩)

theorem cut_none {ps : List (List UInt8)} {ns : List Nat} (h : Spells ps ns) : Lib.cut (Lib.join ps [58]) [58, 58] = (Lib.join ps [58], [], false) := by
  have hi : Lib.index (Lib.join ps [58]) [58, 58] = -1 := by
    refine Lib.index_none (fun j _ => ?_)
    cases ho : Lib.occAt (Lib.join ps [58]) [58, 58] j with
    | false => rfl
    | true =>
      obtain ⟨h1, h2⟩ := (occ_two _ _).1 ho
      obtain ⟨c, h3, h4⟩ := join_plain h j h1
      rw [h2] at h3
      exact absurd (Option.some.inj h3).symm h4
  unfold Lib.cut
  rw [hi]
  rfl

theorem cut_hit {ps : List (List UInt8)} {ns : List Nat} (h : Spells ps ns) (B : List UInt8) :
    Lib.cut (Lib.join ps [58] ++ [58, 58] ++ B) [58, 58] = (Lib.join ps [58], B, true) := by
  have hi : Lib.index (Lib.join ps [58] ++ [58, 58] ++ B) [58, 58] = ((Lib.join ps [58]).length : Nat) := by
    refine Lib.index_first (by simp) ?_ (fun j hj => ?_)
    · rw [occ_two]
      rw [List.append_assoc]
      refine ⟨?_, ?_⟩
      · rw [List.getElem?_append_right (Nat.le_refl _), Nat.sub_self]
        rfl
      · rw [List.getElem?_append_right (by omega), show (Lib.join ps [58]).length + 1 - (Lib.join ps [58]).length = 1 by omega]
        rfl
    · cases ho : Lib.occAt (Lib.join ps [58] ++ [58, 58] ++ B) [58, 58] j with
      | false => rfl
      | true =>
        obtain ⟨h1, h2⟩ := (occ_two _ _).1 ho
        rw [List.append_assoc, List.getElem?_append_left hj] at h1
        obtain ⟨c, h3, h4⟩ := join_plain h j h1
        have hlt : j + 1 < (Lib.join ps [58]).length := by
          rcases Nat.lt_or_ge (j + 1) (Lib.join ps [58]).length with h5 | h5
          · exact h5
          · rw [List.getElem?_eq_none h5] at h3; cases h3
        rw [List.append_assoc, List.getElem?_append_left hlt, h3] at h2
        exact absurd (Option.some.inj h2) h4
  unfold Lib.cut
  rw [hi]
  rw [if_pos (by omega), Int.toNat_natCast]
  simp [List.drop_append]

theorem sixP_whole {ps : List (List UInt8)} {ns : List Nat} (h : Spells ps ns) (h8 : ns.length = 8) : sixP (Lib.join ps [58]) = some ns := by
  unfold sixP
  rw [cut_none h]
  rw [rowP_join h]
  simp [rowP, h8]

theorem sixP_gap {ps qs : List (List UInt8)} {ns ms : List Nat} (h : Spells ps ns) (h' : Spells qs ms) (h7 : ns.length + ms.length ≤ 7) :
    sixP (Lib.join ps [58] ++ [58, 58] ++ Lib.join qs [58]) = some (ns ++ List.replicate (8 - ns.length - ms.length) 0 ++ ms) := by
  unfold sixP
  rw [cut_hit h]
  rw [rowP_join h, rowP_join h']
  simp [h7]
end Go.Proofs.YtaekcldkfkiekaaDoor

namespace Go.Proofs.YtaekcldkfkiekaaDoor
open Go.RowKit Go.Proofs.YtaekcldkfkiekaaDoorW.PrintWords Go.Proofs.YtaekcldkfkiekaaDoorW.PrintLast Go.Proofs.YtaekcldkfkiekaaDoorW.PrintMore

theorem digOf_hexd (d : Nat) (h : d < 16) : digOf (UInt8.ofNat (hexd (d : Int)).toNat) = some d := by
  rcases (by omega : d = 0 ∨ d = 1 ∨ d = 2 ∨ d = 3 ∨ d = 4 ∨ d = 5 ∨ d = 6 ∨ d = 7 ∨ d = 8 ∨ d = 9 ∨ d = 10 ∨ d = 11 ∨ d = 12 ∨ d = 13 ∨ d = 14 ∨ d = 15) with rfl | rfl | rfl | rfl | rfl | rfl | rfl | rfl | rfl | rfl | rfl | rfl | rfl | rfl | rfl | rfl
  all_goals decide

theorem num_hexn (n : Nat) : ∀ (k a : Nat), num 16 a ((hexn n k).map fun x : Int => UInt8.ofNat x.toNat) = some (a * 16 ^ k + n % 16 ^ k)
  | 0, a => by simp [hexn, num, Nat.mod_one]
  | k + 1, a => by
    have hd : n / 16 ^ k % 16 < 16 := Nat.mod_lt _ (by omega)
    simp only [hexn, List.map_cons, num]
    rw [digOf_hexd _ hd]
    simp only
    rw [if_pos hd, num_hexn n k]
    congr 1
    rw [Nat.pow_succ, Nat.mod_mul, Nat.add_mul]
    rw [Nat.mul_assoc, Nat.mul_comm 16 (16 ^ k), Nat.mul_comm (n / 16 ^ k % 16)]
    omega

def hx (n : Nat) : List UInt8 := (hexS n).data.toList

theorem hx_spells (n : Nat) (h : n < 65536) : numP 16 4 (hx n) = some n := by
  obtain ⟨k, hk, h1, h4, hlt⟩ : ∃ k, (if n < 16 then 1 else if n < 256 then 2 else if n < 4096 then 3 else 4) = k ∧ 1 ≤ k ∧ k ≤ 4 ∧ n < 16 ^ k := by
    by_cases h1 : n < 16
    · exact ⟨1, by rw [if_pos h1], by omega, by omega, by omega⟩
    · by_cases h2 : n < 256
      · exact ⟨2, by rw [if_neg h1, if_pos h2], by omega, by omega, by omega⟩
      · by_cases h3 : n < 4096
        · exact ⟨3, by rw [if_neg h1, if_neg h2, if_pos h3], by omega, by omega, by omega⟩
        · exact ⟨4, by rw [if_neg h1, if_neg h2, if_neg h3], by omega, by omega, by omega⟩
  have e : hx n = (hexn n k).map (fun x : Int => UInt8.ofNat x.toNat) := by rw [← hk]; rfl
  have hl : (hx n).length = k := by rw [e, List.length_map, hexn_length]
  unfold numP
  rw [hl, if_neg (by omega), e, num_hexn, Nat.zero_mul, Nat.zero_add, Nat.mod_eq_of_lt hlt]

theorem hx_all : ∀ l : List Nat, (∀ n ∈ l, n < 65536) → Spells (l.map hx) l
  | [], _ => trivial
  | n :: l, h => ⟨hx_spells n (h n (by simp)), hx_all l (fun m hm => h m (List.mem_cons_of_mem _ hm))⟩

theorem textsP_join (l : List Nat) : textsP l = Lib.join (l.map hx) [58] := rfl

/-- a decimal text -/
theorem decS_list (n : Nat) (h : n < 1000) : Lib.decDigits n = if n < 10 then [UInt8.ofNat (48 + n)] else if n < 100 then [UInt8.ofNat (48 + n / 10), UInt8.ofNat (48 + n % 10)] else [UInt8.ofNat (48 + n / 100), UInt8.ofNat (48 + n / 10 % 10), UInt8.ofNat (48 + n % 10)] := by
  split
  · rw [Lib.decDigits_one (by assumption)]
  · split
    · rw [Lib.decDigits_two (by assumption) (by assumption)]
    · rw [Lib.decDigits, dif_neg (by omega), Lib.decDigits_two (by omega) (by omega)]
      rw [Nat.div_div_eq_div_mul]
      rfl

theorem octP_all : ∀ n : Fin 256, octP (Lib.decDigits n.val) = some n.val := by
  intro n
  rw [decS_list n.val (by omega)]
  revert n
  decide +kernel

theorem octP_dec (n : Nat) (h : n < 256) : octP (Lib.decDigits n) = some n := octP_all ⟨n, h⟩

theorem octP_chars {l : List UInt8} {n : Nat} (h : octP l = some n) : ∀ c ∈ l, c ≠ 58 ∧ c ≠ 46 := by
  unfold octP at h
  cases hn : numP 10 3 l with
  | none => rw [hn] at h; cases h
  | some m => exact numP_chars hn

theorem fourP_txt (lo : Nat) (h : lo < 4294967296) : fourP (fourTxt lo) = some lo := by
  have hn : ∀ j, octP (Lib.decDigits (octOf lo j)) = some (octOf lo j) := fun j => octP_dec _ (octOf_lt _ _)
  have hs : splitOn 46 (fourTxt lo) = [Lib.decDigits (octOf lo 0), Lib.decDigits (octOf lo 1), Lib.decDigits (octOf lo 2), Lib.decDigits (octOf lo 3)] := by
    refine splitOn_join 46 _ _ (fun p hp => ?_)
    simp only [List.mem_cons, List.not_mem_nil, or_false] at hp
    rcases hp with rfl | rfl | rfl | rfl <;> exact fun hc => (octP_chars (hn _) 46 hc).2 rfl
  unfold fourP
  rw [hs]
  simp only [List.mapM_cons, List.mapM_nil, hn]
  have e : ∀ j : Nat, (lo : Int) / 256 ^ (3 - j) % 256 = ((lo / 256 ^ (3 - j) % 256 : Nat) : Int) := fun j => by
    rw [Int.natCast_emod, Int.natCast_ediv, Int.natCast_pow]
    rfl
  simp only [octOf, e, Int.toNat_natCast]
  simp
  omega

/-- a text without a dot is no four numbers -/
theorem fourP_no (l : List UInt8) (h : 46 ∉ l) : fourP l = none := by
  unfold fourP
  rw [splitOn_none 46 l h]
  simp only [List.mapM_cons, List.mapM_nil]
  cases octP l <;> rfl

theorem join_mem (c : UInt8) : ∀ ps : List (List UInt8), ∀ x ∈ Lib.join ps [c], x = c ∨ ∃ p ∈ ps, x ∈ p
  | [], x, h => by simp [Lib.join_nil] at h
  | [p], x, h => by rw [Lib.join_one] at h; exact Or.inr ⟨p, by simp, h⟩
  | p :: q :: ps, x, h => by
    rw [join_cons2] at h
    rcases List.mem_append.1 h with h | h
    · exact Or.inr ⟨p, by simp, h⟩
    · rcases List.mem_cons.1 h with rfl | h
      · exact Or.inl rfl
      · rcases join_mem c (q :: ps) x h with h | ⟨y, hy, hx⟩
        · exact Or.inl h
        · exact Or.inr ⟨y, List.mem_cons_of_mem _ hy, hx⟩

theorem no_dot {ps : List (List UInt8)} {ns : List Nat} (h : Spells ps ns) : 46 ∉ Lib.join ps [58] := fun hc => by
  rcases join_mem 58 ps 46 hc with h1 | ⟨p, hp, hx⟩
  · exact absurd h1 (by decide)
  · exact ((h.part p hp).2 46 hx).2 rfl

/-- the address that a text is read as -/
def parseP (l : List UInt8) : Option (Bool × Int × Int) :=
  match fourP l with
  | some v => some (false, 0, (v : Int))
  | none => (sixP l).map fun g => (true, (packL (intsOf g)).1, (packL (intsOf g)).2)

def parseRes : Option (Bool × Int × Int) → Bool × Int × Int × Int
  | some (a, b, c) => (a, b, c, 0)
  | none => (false, 0, 0, 20)

theorem parse_f (s : ByteArray) (h : s.size < 4294967281) (k : Nat) (hk : s.size + 1 < k) : Q.addr_Parse.f k s = some (parseRes (parseP s.data.toList)) := by
  obtain ⟨r, hr, hm⟩ := four_f s h k hk
  unfold Q.addr_Parse.f
  rw [hr]
  unfold parseP
  cases hf : fourP s.data.toList with
  | some v =>
    rw [hf] at hm
    simp only at hm
    subst hm
    rfl
  | none =>
    rw [hf] at hm
    simp only at hm
    have h4 : r.2.2.2 = false := by simpa using hm
    simp only [Option.bind_some, h4]
    unfold addr_six.f
    rw [if_pos h]
    cases sixP s.data.toList <;> rfl
end Go.Proofs.YtaekcldkfkiekaaDoor

namespace Go.Proofs.YtaekcldkfkiekaaDoor

/-- a row of noughts from one place to another -/
structure CutAt (g : List Int) (f t : Nat) : Prop where
  le : f ≤ t
  le2 : t ≤ g.length
  cut : g = g.take f ++ List.replicate (t - f) 0 ++ g.drop t

theorem takeWhile_zero : ∀ l : List Int, l = List.replicate (l.takeWhile (· == 0)).length 0 ++ l.drop (l.takeWhile (· == 0)).length
  | [] => rfl
  | x :: l => by
    by_cases hx : x = 0
    · subst hx
      have ih := takeWhile_zero l
      simp only [List.takeWhile_cons, BEq.rfl, if_true, List.length_cons, List.replicate_succ, List.drop_succ_cons, List.cons_append]
      rw [← ih]
    · have : (x == 0) = false := by simpa using hx
      simp [this]

theorem zend_cut (g : List Int) (i : Nat) (h : i ≤ g.length) : CutAt g i (zend g i) := by
  have h2 := zend_le g i h
  refine ⟨h2.1, h2.2, ?_⟩
  have h3 := takeWhile_zero (g.drop i)
  unfold zend
  rw [Nat.add_sub_cancel_left, ← List.drop_drop, List.append_assoc, ← h3, List.take_append_drop]

theorem cut_zero (g : List Int) : CutAt g 0 0 := ⟨Nat.le_refl _, Nat.zero_le _, by simp⟩

theorem longest_cut (g : List Int) : ∀ n, n ≤ g.length → CutAt g (longest g n).1 (longest g n).2
  | 0, _ => cut_zero g
  | n + 1, h => by
    unfold longest
    split
    · exact zend_cut g n (by omega)
    · exact longest_cut g n (by omega)

theorem all_zero : ∀ g : List Int, g.all (· == 0) = true → g = List.replicate g.length 0
  | [], _ => rfl
  | x :: g, h => by
    simp only [List.all_cons, Bool.and_eq_true, beq_iff_eq] at h
    rw [List.length_cons, List.replicate_succ, ← all_zero g h.2, h.1]

/-- the gap: none, or a row of two noughts or more -/
theorem gapOf_cut (g : List Int) (h : g.length = 8) : ((gapOf g).2 = 0 ∧ (gapOf g).1 = 0) ∨ (CutAt g (gapOf g).1 (gapOf g).2 ∧ (gapOf g).1 + 2 ≤ (gapOf g).2) := by
  unfold gapOf
  split
  · rename_i ha
    have hz := all_zero g ha
    rw [h] at hz
    exact Or.inr ⟨⟨by omega, by rw [h]; exact Nat.le_refl _, by simp [h, ← hz]⟩, by omega⟩
  · split
    · exact Or.inl ⟨rfl, rfl⟩
    · exact Or.inr ⟨longest_cut g 8 (by omega), by omega⟩

theorem intsOf_inj : ∀ {a b : List Nat}, intsOf a = intsOf b → a = b
  | [], [], _ => rfl
  | x :: a, y :: b, h => by
    simp only [intsOf, List.map_cons, List.cons.injEq, Int.natCast_inj] at h
    rw [h.1, intsOf_inj h.2]
  | [], _ :: _, h => by simp [intsOf] at h
  | _ :: _, [], h => by simp [intsOf] at h

theorem cut_nat {l : List Nat} {f t : Nat} (h : CutAt (intsOf l) f t) : l = l.take f ++ List.replicate (t - f) 0 ++ l.drop t := by
  apply intsOf_inj
  have := h.cut
  simpa [intsOf, List.map_take, List.map_drop] using this

theorem pack_back (hi lo : Nat) (h1 : hi < 18446744073709551616) (l1 : lo < 18446744073709551616) : packL (intsOf (groupsN hi lo)) = ((hi : Int), (lo : Int)) := by
  show (or4 _ _ _ _, or4 _ _ _ _) = _
  rw [or4_nat _ _ _ _ (by omega) (by omega) (by omega) (by omega), or4_nat _ _ _ _ (by omega) (by omega) (by omega) (by omega)]
  unfold pack4
  congr 2 <;> omega

theorem spells_take {l : List Nat} (h : ∀ n ∈ l, n < 65536) (f : Nat) : Spells ((l.take f).map hx) (l.take f) := hx_all _ (fun n hn => h n (List.mem_of_mem_take hn))
theorem spells_drop {l : List Nat} (h : ∀ n ∈ l, n < 65536) (f : Nat) : Spells ((l.drop f).map hx) (l.drop f) := hx_all _ (fun n hn => h n (List.mem_of_mem_drop hn))

theorem sixP_txt (hi lo : Nat) : sixP (sixTxt hi lo) = some (groupsN hi lo) ∧ 46 ∉ sixTxt hi lo := by
  have hlt := groupsN_lt hi lo
  have h8 := groupsN_len hi lo
  have hg := gapOf_cut (groupsOf hi lo) rfl
  unfold sixTxt
  generalize hgap : gapOf (groupsOf (hi : Int) (lo : Int)) = ft at hg ⊢
  obtain ⟨f, t⟩ := ft
  simp only at hg ⊢
  rw [← groupsN_ints] at hg
  generalize groupsN hi lo = l at hlt h8 hg ⊢
  rcases hg with ⟨h0, h1⟩ | ⟨hc, h2⟩
  · rw [if_pos h0]
    exact ⟨sixP_whole (hx_all _ hlt) h8, no_dot (hx_all _ hlt)⟩
  · rw [if_neg (by omega)]
    have hle : t ≤ 8 := by have := hc.le2; simpa [intsOf, h8] using this
    refine ⟨?_, ?_⟩
    · rw [textsP_join, textsP_join, sixP_gap (spells_take hlt f) (spells_drop hlt t) (by rw [List.length_take, List.length_drop, h8]; omega)]
      congr 1
      rw [List.length_take, List.length_drop, h8, show 8 - min f 8 - (8 - t) = t - f by omega]
      exact (cut_nat hc).symm
    · intro hm
      rcases List.mem_append.1 hm with hm | hm
      · rcases List.mem_append.1 hm with hm | hm
        · exact no_dot (spells_take hlt f) hm
        · exact absurd hm (by decide)
      · exact no_dot (spells_drop hlt t) hm

theorem parse_six (hi lo : Nat) (h1 : hi < 18446744073709551616) (l1 : lo < 18446744073709551616) : parseP (sixTxt hi lo) = some (true, (hi : Int), (lo : Int)) := by
  obtain ⟨h, hd⟩ := sixP_txt hi lo
  unfold parseP
  rw [fourP_no _ hd, h]
  simp only [Option.map_some, pack_back hi lo h1 l1]

theorem parse_four (lo : Nat) (h : lo < 4294967296) : parseP (fourTxt lo) = some (false, 0, (lo : Int)) := by
  unfold parseP
  rw [fourP_txt lo h]

theorem txt_len (six : Bool) (hi lo : Int) : (ofL (printP six hi lo)).size ≤ 100 := by
  rw [ofL_size]
  unfold printP
  split
  · unfold sixTxt
    have e := groupsN_len hi.toNat lo.toNat
    split
    · have := textsP_len (groupsN hi.toNat lo.toNat) (by omega)
      rw [ofL_size] at this; omega
    · have h1 := textsP_len ((groupsN hi.toNat lo.toNat).take (gapOf (groupsOf hi.toNat lo.toNat)).1) (by rw [List.length_take]; omega)
      have h2 := textsP_len ((groupsN hi.toNat lo.toNat).drop (gapOf (groupsOf hi.toNat lo.toNat)).2) (by rw [List.length_drop]; omega)
      rw [ofL_size] at h1 h2
      simp only [List.length_append, List.length_cons, List.length_nil]
      omega
  · split
    · have hlen := join_len [46] 3 [Lib.decDigits (octOf lo 0), Lib.decDigits (octOf lo 1), Lib.decDigits (octOf lo 2), Lib.decDigits (octOf lo 3)] (fun x hx => by
        simp only [List.mem_cons, List.not_mem_nil, or_false] at hx
        rcases hx with rfl | rfl | rfl | rfl <;> exact decS_len _ (octOf_lt _ _))
      simp only [List.length_cons, List.length_nil] at hlen
      unfold fourTxt
      omega
    · simp

/-- B7: what a right address is told as is read as that address -/
theorem parse_print (six : Bool) (hi lo : Int) (h0 : 0 ≤ hi) (h1 : hi < 18446744073709551616) (l0 : 0 ≤ lo) (l1 : lo < 18446744073709551616) (hv : six = true ∨ hi = 0 ∧ lo < 4294967296) :
    parseP (printP six hi lo) = some (six, hi, lo) := by
  obtain ⟨hn, rfl⟩ := Int.eq_ofNat_of_zero_le h0
  obtain ⟨ln, rfl⟩ := Int.eq_ofNat_of_zero_le l0
  cases six with
  | true =>
    have := parse_six hn ln (by omega) (by omega)
    simpa [printP] using this
  | false =>
    obtain ⟨h2, h3⟩ := hv.resolve_left (by simp)
    have := parse_four ln (by omega)
    unfold printP
    rw [if_neg (by simp), if_pos ⟨h2, h3⟩, h2]
    exact this
end Go.Proofs.YtaekcldkfkiekaaDoor
