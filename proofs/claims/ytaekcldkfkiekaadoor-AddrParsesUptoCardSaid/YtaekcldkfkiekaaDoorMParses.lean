/-
AddrParses: whatever text is handed in, the law function returns true. The second form's row, and its tied card. Conditions: the text is of bulk at most 1048576; the listed variables of the library hold what their initialisers lay (the card ties it to the program's text).
-/
import Derived.Test.YtaekcldkfkiekaaDoorRows
import Derived.Test.YtaekcldkfkiekaaDoorXGv
import Derived.ProofKit
import Derived.OpenShut
import Derived.LaidMore
import Derived.Lay
import Derived.Lib.LaidTab
import Derived.Stop.LaidErr
import Derived.HandedShaped
import Derived.Test.YtaekcldkfkiekaaDoorXPrint
import Derived.Test.YtaekcldkfkiekaaDoorQ14
import Derived.Test.YtaekcldkfkiekaaDoorNA
import Derived.Test.YtaekcldkfkiekaaDoorNB
import Derived.Lib.IndexMore
import Derived.Test.YtaekcldkfkiekaaDoorTie
import Derived.Test.YtaekcldkfkiekaaDoorCards
import Derived.Deep.DeepHandedRow
import Derived.ShutString
import Derived.SevenTiedAt

namespace Go.Proofs.YtaekcldkfkiekaaDoor
open Go.ChangeShapes Go.WideShapes Go.ChangeAt Go.RowKit

def laidL : List (String × DataW Unit) := Rows.addrBackRow.laid

theorem own : ownKnob Tryd.prog.godebug = none := by kernel_rfl
theorem star : "*" ++ "errors.errorString" = "*errors.errorString" := by decide
theorem rowErr (u : TypeId) (h : Tryd.prog.typeName? 3 u = some "*errors.errorString") : u = 125 :=
  typeName_ptr_named (nm := "errors.errorString") (by rw [star]; kernel_rfl) (by kernel_rfl) (by decide) u (by rw [star]; exact h)

def tab64 : List Int := [0, 1, 56, 2, 57, 49, 28, 3, 61, 58, 42, 50, 38, 29, 17, 4, 62, 47, 59, 36, 45, 43, 51, 22, 53, 39, 33, 30, 24, 18, 12, 5, 63, 55, 48, 27, 60, 41, 37, 16, 46, 35, 44, 21, 52, 32, 23, 11, 54, 26, 40, 15, 34, 20, 31, 10, 25, 14, 19, 9, 13, 8, 7, 6]

theorem laid_split : laidL = ("math/bits.deBruijn32tab", Rows.laid_math_bits_deBruijn32tab) :: ("math/bits.deBruijn64tab", Lib.tabData .u8 tab64) :: ("internal/strconv.uint64pow10", Lib.tabData .u64 Lib.pow10Tab) :: ("unicode/utf8.acceptRanges", Rows.laid_unicode_utf8_acceptRanges) :: ("strconv.ErrRange", Rows.laid_strconv_ErrRange) :: ("strconv.ErrSyntax", Rows.laid_strconv_ErrSyntax) :: [("unicode/utf8.first", Rows.laid_unicode_utf8_first)] := by kernel_rfl

/-- the condition and the shape give what the walks ask -/
theorem gv_of_laid {W : World} (h : laidMetH Tryd.prog laidL W) (hs : W.ShapedOpen Tryd.prog) : GV W := by
  rw [MakeChecks.laidMetH_plain _ _ _ (by kernel_rfl)] at h
  rw [laid_split] at h
  have h64 : Lib.TabIs Tryd.prog W "math/bits.deBruijn64tab" .u8 tab64 :=
    Lib.tabIs_of_head (g := 5) (t := 120) (e := 5) (n := 64) (by kernel_rfl) (by kernel_rfl) (by kernel_rfl) (by kernel_rfl) (by kernel_rfl) (by kernel_rfl) (h := laidMet.tail h)
  have hp : Lib.TabIs Tryd.prog W "internal/strconv.uint64pow10" .u64 Lib.pow10Tab :=
    Lib.tabIs_of_head (g := 0) (t := 96) (e := 23) (n := 20) (by kernel_rfl) (by kernel_rfl) (by kernel_rfl) (by kernel_rfl) (by kernel_rfl) (by kernel_rfl) (h := laidMet.tail (laidMet.tail h))
  obtain ⟨a0, s0, hv0, _, _, _⟩ := laid_sentinel (laidMet.tail (laidMet.tail (laidMet.tail (laidMet.tail (laidMet.tail h))))) (g := 2) (ti := 77) (tp := 125) (te := 127) (ts := 9) (by kernel_rfl) (by kernel_rfl) Tryd.underlying77 rowErr Tryd.underlying125 Tryd.underlying127 rfl rfl Tryd.underlying9 (by kernel_rfl) (by kernel_rfl)
  have hc := World.var?_cell (show Tryd.prog.globalNamed "strconv.ErrSyntax" = some 2 by kernel_rfl) hv0 0
  obtain ⟨o, _, ho, _⟩ := hs.2 8 (of_decide_eq_true (by kernel_rfl)) (of_decide_eq_true (by kernel_rfl))
  refine ⟨hs, ⟨.iface 125 (.pointer (some a0)), by simpa using hc, Or.inr ⟨_, _, rfl⟩⟩, hp, ?_, ?_⟩
  · exact h64.cell (g := 5) (by kernel_rfl) 15 (by decide)
  · rcases Nat.lt_or_ge 8 W.heap.size with h1 | h1
    · omega
    · rw [Array.getElem?_eq_none h1] at ho; cases ho

/-- the wrap for a row that lists variables, the world's shape kept -/
theorem wrap_laid {H : Type} {enc : TypeId × Value → H} {a : Assume} {C : Checked} {os : Os} {f : FuncId} {fn : Func} {s : ChangeSpec} {conds : List PathCond} {apart fresh handsOn again : Bool} {X : World → Array Value → Prop}
    (hX : ∀ (w w' : World) (args : Array Value), w.heap = w'.heap → X w args → X w' args)
    (own : ownKnob C.prog.godebug = none) (started : os.Started) (noInit : C.prog.inits.idxOf? f = none) (hfn : C.prog.funcs[f]? = some fn)
    (witness : ∃ (w : World) (tape : Tape) (i : Input), w.os = os ∧ (w.forCall tape i).Shaped C.prog ∧ i.vars = [] ∧ Input.okWide C.prog (w.forCall tape i) .any w.heap.size f i ∧
      ((s.pre enc C.prog fn conds apart (w.forCall tape i).memory i.args ∧ X (w.forCall tape i).memory i.args) ∧ sizedMet enc C.prog fn (OpenSpec.ofChange s) apart (w.forCall tape i).memory i.args) ∧ a.holds C.prog (lone (Frame.enter C.prog f i.args .normal) [] (w.forCall tape i)))
    (contract : ∀ (W : World) (base : Nat) (args : Array Value) (ds gs : List (DataW H)) (before : List MemPlace),
      (∀ (j : Nat) t v, fn.params[j]? = some t → args[j]? = some v → Value.okWide C.prog W .any base t v) →
      DataW.Whole enc C.prog fn.params.toList s.vars apart W args.toList ds gs before →
      (DataW.weightsEach C.prog (fn.params.toList ++ s.plain.varTypes C.prog) (ds ++ gs)).all (· ≤ reachBytes) = true → W.ShapedOpen C.prog → X W args →
      Calls C.prog f args W fun e W' => ∃ v, e = .returned v ∧ s.post enc C.prog fn apart fresh handsOn again W args v W') :
    ReturnsInHanded a C os f .any (fun w args => (s.pre enc C.prog fn conds apart w args ∧ X w args) ∧ sizedMet enc C.prog fn (OpenSpec.ofChange s) apart w args) (s.post enc C.prog fn apart fresh handsOn again) := by
  refine returnsInHanded_of_calls own started noInit witness ?_
  intro w tape i _ hsh _ hok hpre _
  obtain ⟨_, _, _, fn', hfn', _, _, _, _, hval⟩ := hok
  have e : fn' = fn := Option.some.inj (hfn'.symm.trans hfn)
  subst e
  obtain ⟨⟨⟨ds, gs, before, hw, _⟩, hx⟩, hz⟩ := hpre
  have hw' := DataW.Whole.of_heap (w' := w.forCall tape i) (by rfl) hw
  refine (contract (w.forCall tape i) w.heap.size i.args ds gs before hval hw' (hz.weights hw) hsh (hX _ _ _ (by rfl) hx)).mono fun e W' ⟨v, he, hp⟩ => ?_
  subst he
  exact ChangeSpec.post_blind hp
end Go.Proofs.YtaekcldkfkiekaaDoor

namespace Go.Proofs.YtaekcldkfkiekaaDoor

/-- a byte is no colon and no dot if it is a digit -/
theorem digOf_ne {c : UInt8} {d : Nat} (h : digOf c = some d) : c ≠ 58 ∧ c ≠ 46 := by
  have h58 : digOf 58 = none := by decide
  have h46 : digOf 46 = none := by decide
  refine ⟨?_, ?_⟩
  · rintro rfl
    rw [h58] at h; cases h
  · rintro rfl
    rw [h46] at h; cases h

theorem num_chars {b : Nat} : ∀ {l : List UInt8} {n m : Nat}, num b n l = some m → ∀ c ∈ l, c ≠ 58 ∧ c ≠ 46
  | [], _, _, _, c, hc => by cases hc
  | x :: xs, n, m, h, c, hc => by
    unfold num at h
    cases hd : digOf x with
    | none => rw [hd] at h; cases h
    | some d =>
      rw [hd] at h
      simp only at h
      split at h
      · rcases List.mem_cons.1 hc with rfl | hc
        · exact digOf_ne hd
        · exact num_chars h c hc
      · cases h

theorem numP_ne {b most : Nat} {l : List UInt8} {n : Nat} (h : numP b most l = some n) : l ≠ [] ∧ l.length ≤ most ∧ num b 0 l = some n := by
  unfold numP at h
  split at h
  · cases h
  · rename_i h1
    refine ⟨?_, by omega, h⟩
    rintro rfl
    simp at h1

theorem numP_chars {b most : Nat} {l : List UInt8} {n : Nat} (h : numP b most l = some n) : ∀ c ∈ l, c ≠ 58 ∧ c ≠ 46 := num_chars (numP_ne h).2.2

/-- parts with one byte between -/
theorem join_cons2 (x y : List UInt8) (r : List (List UInt8)) (c : UInt8) : Lib.join (x :: y :: r) [c] = x ++ c :: Lib.join (y :: r) [c] := by
  simp [Lib.join, List.intercalate, List.intersperse]

theorem splitOn_join (c : UInt8) : ∀ (x : List UInt8) (r : List (List UInt8)), (∀ p ∈ x :: r, c ∉ p) → splitOn c (Lib.join (x :: r) [c]) = x :: r
  | x, [], h => by
    rw [Lib.join_one]
    exact splitOn_none c x (h x (by simp))
  | x, y :: r, h => by
    rw [join_cons2, splitOn_hit c _ _ (h x (by simp)), splitOn_join c y r (fun p hp => h p (List.mem_cons_of_mem _ hp))]

/-- texts of groups, and the groups -/
def Spells : List (List UInt8) → List Nat → Prop
  | [], [] => True
  | p :: ps, n :: ns => numP 16 4 p = some n ∧ Spells ps ns
  | _, _ => False

theorem Spells.mapM : ∀ {ps : List (List UInt8)} {ns : List Nat}, Spells ps ns → ps.mapM (numP 16 4) = some ns
  | [], [], _ => rfl
  | p :: ps, n :: ns, h => by
    rw [List.mapM_cons, h.1, Spells.mapM h.2]
    rfl
  | [], _ :: _, h => h.elim
  | _ :: _, [], h => h.elim

theorem Spells.length : ∀ {ps : List (List UInt8)} {ns : List Nat}, Spells ps ns → ps.length = ns.length
  | [], [], _ => rfl
  | p :: ps, n :: ns, h => by
    rw [List.length_cons, List.length_cons, Spells.length h.2]
  | [], _ :: _, h => h.elim
  | _ :: _, [], h => h.elim

theorem Spells.part : ∀ {ps : List (List UInt8)} {ns : List Nat}, Spells ps ns → ∀ p ∈ ps, p ≠ [] ∧ ∀ c ∈ p, c ≠ 58 ∧ c ≠ 46
  | [], [], _, _, hp => by cases hp
  | p :: ps, n :: ns, h, q, hq => by
    rcases List.mem_cons.1 hq with rfl | hq
    · exact ⟨(numP_ne h.1).1, numP_chars h.1⟩
    · exact Spells.part h.2 q hq
  | [], _ :: _, h, _, _ => h.elim
  | _ :: _, [], h, _, _ => h.elim

theorem join_ne (x : List UInt8) (r : List (List UInt8)) (c : UInt8) (h : x ≠ []) : Lib.join (x :: r) [c] ≠ [] := by
  cases r with
  | nil => rw [Lib.join_one]; exact h
  | cons y r => rw [join_cons2]; simp

theorem rowP_join {ps : List (List UInt8)} {ns : List Nat} (h : Spells ps ns) : rowP (Lib.join ps [58]) = some ns := by
  cases ps with
  | nil =>
    cases ns with
    | nil => rfl
    | cons _ _ => exact h.elim
  | cons p ps =>
    have hp := h.part
    unfold rowP
    rw [if_neg (join_ne _ _ _ (hp p (by simp)).1), splitOn_join 58 p ps (fun q hq hc => ((hp q hq).2 58 hc).1 rfl)]
    exact h.mapM

/-- no two colons behind each other, none at the end, no dot -/
theorem join_plain : ∀ {ps : List (List UInt8)} {ns : List Nat}, Spells ps ns → ∀ i : Nat, (Lib.join ps [58])[i]? = some 58 → ∃ c, (Lib.join ps [58])[i + 1]? = some c ∧ c ≠ 58
  | [], _, _, i, hi => by simp [Lib.join_nil] at hi
  | [p], ns, h, i, hi => by
    rw [Lib.join_one] at hi
    exact absurd rfl ((h.part p (by simp)).2 58 (List.mem_of_getElem? hi)).1
  | p :: q :: ps, [], h, i, hi => h.elim
  | p :: q :: ps, [_], h, i, hi => h.2.elim
  | p :: q :: ps, n :: m :: ns, h, i, hi => by
    have hp := h.part p (by simp)
    have hq := h.part q (by simp)
    rw [join_cons2] at hi ⊢
    rcases Nat.lt_trichotomy i p.length with hlt | heq | hgt
    · rw [List.getElem?_append_left hlt] at hi
      exact absurd rfl (hp.2 58 (List.mem_of_getElem? hi)).1
    · subst heq
      rw [List.getElem?_append_right (by omega), show p.length + 1 - p.length = 1 by omega, List.getElem?_cons_succ]
      cases q with
      | nil => exact absurd rfl hq.1
      | cons c q =>
        refine ⟨c, ?_, (hq.2 c (by simp)).1⟩
        cases ps with
        | nil => rw [Lib.join_one]; rfl
        | cons r ps => rw [join_cons2]; rfl
    · have ih := join_plain h.2 (i - p.length - 1)
      rw [List.getElem?_append_right (by omega), show i - p.length = (i - p.length - 1) + 1 by omega, List.getElem?_cons_succ] at hi
      obtain ⟨c, hc, hne⟩ := ih hi
      refine ⟨c, ?_, hne⟩
      rw [List.getElem?_append_right (by omega), show i + 1 - p.length = (i - p.length - 1) + 1 + 1 by omega, List.getElem?_cons_succ]
      exact hc

theorem occ_two (l : List UInt8) (i : Nat) : Lib.occAt l [58, 58] i = true ↔ l[i]? = some 58 ∧ l[i + 1]? = some 58 := by
  unfold Lib.occAt
  rw [← List.getElem?_drop (i := i) (j := 1) , show l[i]? = (l.drop i)[0]? by rw [List.getElem?_drop, Nat.add_zero]]
  cases l.drop i with
  | nil => simp
  | cons a t =>
    cases t with
    | nil => simp
    | cons b t => simp; constructor <;> (rintro ⟨h1, h2⟩; exact ⟨h1.symm, h2.symm⟩)

theorem cut_none {ps : List (List UInt8)} {ns : List Nat} (h : Spells ps ns) : Lib.cut (Lib.join ps [58]) [58, 58] = (Lib.join ps [58], [], false) := by
  have hi : Lib.index (Lib.join ps [58]) [58, 58] = -1 := by
    refine Lib.index_none (fun j _ => ?_)
    cases ho : Lib.occAt (Lib.join ps [58]) [58, 58] j with
    | false => rfl
    | true =>
      obtain ⟨h1, h2⟩ := (occ_two _ _).1 ho
      obtain ⟨c, h3, h4⟩ := join_plain h j h1
      rw [h2] at h3
      exact absurd (Option.some.inj h3).symm h4
  unfold Lib.cut
  rw [hi]
  rfl

theorem cut_hit {ps : List (List UInt8)} {ns : List Nat} (h : Spells ps ns) (B : List UInt8) :
    Lib.cut (Lib.join ps [58] ++ [58, 58] ++ B) [58, 58] = (Lib.join ps [58], B, true) := by
  have hi : Lib.index (Lib.join ps [58] ++ [58, 58] ++ B) [58, 58] = ((Lib.join ps [58]).length : Nat) := by
    refine Lib.index_first (by simp) ?_ (fun j hj => ?_)
    · rw [occ_two]
      rw [List.append_assoc]
      refine ⟨?_, ?_⟩
      · rw [List.getElem?_append_right (Nat.le_refl _), Nat.sub_self]
        rfl
      · rw [List.getElem?_append_right (by omega), show (Lib.join ps [58]).length + 1 - (Lib.join ps [58]).length = 1 by omega]
        rfl
    · cases ho : Lib.occAt (Lib.join ps [58] ++ [58, 58] ++ B) [58, 58] j with
      | false => rfl
      | true =>
        obtain ⟨h1, h2⟩ := (occ_two _ _).1 ho
        rw [List.append_assoc, List.getElem?_append_left hj] at h1
        obtain ⟨c, h3, h4⟩ := join_plain h j h1
        have hlt : j + 1 < (Lib.join ps [58]).length := by
          rcases Nat.lt_or_ge (j + 1) (Lib.join ps [58]).length with h5 | h5
          · exact h5
          · rw [List.getElem?_eq_none h5] at h3; cases h3
        rw [List.append_assoc, List.getElem?_append_left hlt, h3] at h2
        exact absurd (Option.some.inj h2) h4
  unfold Lib.cut
  rw [hi]
  rw [if_pos (by omega), Int.toNat_natCast]
  simp [List.drop_append]

theorem sixP_whole {ps : List (List UInt8)} {ns : List Nat} (h : Spells ps ns) (h8 : ns.length = 8) : sixP (Lib.join ps [58]) = some ns := by
  unfold sixP
  rw [cut_none h]
  rw [rowP_join h]
  simp [rowP, h8]

theorem sixP_gap {ps qs : List (List UInt8)} {ns ms : List Nat} (h : Spells ps ns) (h' : Spells qs ms) (h7 : ns.length + ms.length ≤ 7) :
    sixP (Lib.join ps [58] ++ [58, 58] ++ Lib.join qs [58]) = some (ns ++ List.replicate (8 - ns.length - ms.length) 0 ++ ms) := by
  unfold sixP
  rw [cut_hit h]
  rw [rowP_join h, rowP_join h']
  simp [h7]
end Go.Proofs.YtaekcldkfkiekaaDoor

namespace Go.Proofs.YtaekcldkfkiekaaDoor
open Go.RowKit Go.Proofs.YtaekcldkfkiekaaDoorW.PrintWords Go.Proofs.YtaekcldkfkiekaaDoorW.PrintLast Go.Proofs.YtaekcldkfkiekaaDoorW.PrintMore

theorem digOf_hexd (d : Nat) (h : d < 16) : digOf (UInt8.ofNat (hexd (d : Int)).toNat) = some d := by
  rcases (by omega : d = 0 ∨ d = 1 ∨ d = 2 ∨ d = 3 ∨ d = 4 ∨ d = 5 ∨ d = 6 ∨ d = 7 ∨ d = 8 ∨ d = 9 ∨ d = 10 ∨ d = 11 ∨ d = 12 ∨ d = 13 ∨ d = 14 ∨ d = 15) with rfl | rfl | rfl | rfl | rfl | rfl | rfl | rfl | rfl | rfl | rfl | rfl | rfl | rfl | rfl | rfl
  all_goals decide

theorem num_hexn (n : Nat) : ∀ (k a : Nat), num 16 a ((hexn n k).map fun x : Int => UInt8.ofNat x.toNat) = some (a * 16 ^ k + n % 16 ^ k)
  | 0, a => by simp [hexn, num, Nat.mod_one]
  | k + 1, a => by
    have hd : n / 16 ^ k % 16 < 16 := Nat.mod_lt _ (by omega)
    simp only [hexn, List.map_cons, num]
    rw [digOf_hexd _ hd]
    simp only
    rw [if_pos hd, num_hexn n k]
    congr 1
    rw [Nat.pow_succ, Nat.mod_mul, Nat.add_mul]
    rw [Nat.mul_assoc, Nat.mul_comm 16 (16 ^ k), Nat.mul_comm (n / 16 ^ k % 16)]
    omega

def hx (n : Nat) : List UInt8 := (hexS n).data.toList

theorem hx_spells (n : Nat) (h : n < 65536) : numP 16 4 (hx n) = some n := by
  obtain ⟨k, hk, h1, h4, hlt⟩ : ∃ k, (if n < 16 then 1 else if n < 256 then 2 else if n < 4096 then 3 else 4) = k ∧ 1 ≤ k ∧ k ≤ 4 ∧ n < 16 ^ k := by
    by_cases h1 : n < 16
    · exact ⟨1, by rw [if_pos h1], by omega, by omega, by omega⟩
    · by_cases h2 : n < 256
      · exact ⟨2, by rw [if_neg h1, if_pos h2], by omega, by omega, by omega⟩
      · by_cases h3 : n < 4096
        · exact ⟨3, by rw [if_neg h1, if_neg h2, if_pos h3], by omega, by omega, by omega⟩
        · exact ⟨4, by rw [if_neg h1, if_neg h2, if_neg h3], by omega, by omega, by omega⟩
  have e : hx n = (hexn n k).map (fun x : Int => UInt8.ofNat x.toNat) := by rw [← hk]; rfl
  have hl : (hx n).length = k := by rw [e, List.length_map, hexn_length]
  unfold numP
  rw [hl, if_neg (by omega), e, num_hexn, Nat.zero_mul, Nat.zero_add, Nat.mod_eq_of_lt hlt]

theorem hx_all : ∀ l : List Nat, (∀ n ∈ l, n < 65536) → Spells (l.map hx) l
  | [], _ => trivial
  | n :: l, h => ⟨hx_spells n (h n (by simp)), hx_all l (fun m hm => h m (List.mem_cons_of_mem _ hm))⟩

theorem textsP_join (l : List Nat) : textsP l = Lib.join (l.map hx) [58] := rfl

/-- a decimal text -/
theorem decS_list (n : Nat) (h : n < 1000) : Lib.decDigits n = if n < 10 then [UInt8.ofNat (48 + n)] else if n < 100 then [UInt8.ofNat (48 + n / 10), UInt8.ofNat (48 + n % 10)] else [UInt8.ofNat (48 + n / 100), UInt8.ofNat (48 + n / 10 % 10), UInt8.ofNat (48 + n % 10)] := by
  split
  · rw [Lib.decDigits_one (by assumption)]
  · split
    · rw [Lib.decDigits_two (by assumption) (by assumption)]
    · rw [Lib.decDigits, dif_neg (by omega), Lib.decDigits_two (by omega) (by omega)]
      rw [Nat.div_div_eq_div_mul]
      rfl

theorem octP_all : ∀ n : Fin 256, octP (Lib.decDigits n.val) = some n.val := by
  intro n
  rw [decS_list n.val (by omega)]
  revert n
  decide +kernel

theorem octP_dec (n : Nat) (h : n < 256) : octP (Lib.decDigits n) = some n := octP_all ⟨n, h⟩

theorem octP_chars {l : List UInt8} {n : Nat} (h : octP l = some n) : ∀ c ∈ l, c ≠ 58 ∧ c ≠ 46 := by
  unfold octP at h
  cases hn : numP 10 3 l with
  | none => rw [hn] at h; cases h
  | some m => exact numP_chars hn

theorem fourP_txt (lo : Nat) (h : lo < 4294967296) : fourP (fourTxt lo) = some lo := by
  have hn : ∀ j, octP (Lib.decDigits (octOf lo j)) = some (octOf lo j) := fun j => octP_dec _ (octOf_lt _ _)
  have hs : splitOn 46 (fourTxt lo) = [Lib.decDigits (octOf lo 0), Lib.decDigits (octOf lo 1), Lib.decDigits (octOf lo 2), Lib.decDigits (octOf lo 3)] := by
    refine splitOn_join 46 _ _ (fun p hp => ?_)
    simp only [List.mem_cons, List.not_mem_nil, or_false] at hp
    rcases hp with rfl | rfl | rfl | rfl <;> exact fun hc => (octP_chars (hn _) 46 hc).2 rfl
  unfold fourP
  rw [hs]
  simp only [List.mapM_cons, List.mapM_nil, hn]
  have e : ∀ j : Nat, (lo : Int) / 256 ^ (3 - j) % 256 = ((lo / 256 ^ (3 - j) % 256 : Nat) : Int) := fun j => by
    rw [Int.natCast_emod, Int.natCast_ediv, Int.natCast_pow]
    rfl
  simp only [octOf, e, Int.toNat_natCast]
  simp
  omega

/-- a text without a dot is no four numbers -/
theorem fourP_no (l : List UInt8) (h : 46 ∉ l) : fourP l = none := by
  unfold fourP
  rw [splitOn_none 46 l h]
  simp only [List.mapM_cons, List.mapM_nil]
  cases octP l <;> rfl

theorem join_mem (c : UInt8) : ∀ ps : List (List UInt8), ∀ x ∈ Lib.join ps [c], x = c ∨ ∃ p ∈ ps, x ∈ p
  | [], x, h => by simp [Lib.join_nil] at h
  | [p], x, h => by rw [Lib.join_one] at h; exact Or.inr ⟨p, by simp, h⟩
  | p :: q :: ps, x, h => by
    rw [join_cons2] at h
    rcases List.mem_append.1 h with h | h
    · exact Or.inr ⟨p, by simp, h⟩
    · rcases List.mem_cons.1 h with rfl | h
      · exact Or.inl rfl
      · rcases join_mem c (q :: ps) x h with h | ⟨y, hy, hx⟩
        · exact Or.inl h
        · exact Or.inr ⟨y, List.mem_cons_of_mem _ hy, hx⟩

theorem no_dot {ps : List (List UInt8)} {ns : List Nat} (h : Spells ps ns) : 46 ∉ Lib.join ps [58] := fun hc => by
  rcases join_mem 58 ps 46 hc with h1 | ⟨p, hp, hx⟩
  · exact absurd h1 (by decide)
  · exact ((h.part p hp).2 46 hx).2 rfl

/-- the address that a text is read as -/
def parseP (l : List UInt8) : Option (Bool × Int × Int) :=
  match fourP l with
  | some v => some (false, 0, (v : Int))
  | none => (sixP l).map fun g => (true, (packL (intsOf g)).1, (packL (intsOf g)).2)

def parseRes : Option (Bool × Int × Int) → Bool × Int × Int × Int
  | some (a, b, c) => (a, b, c, 0)
  | none => (false, 0, 0, 20)

theorem parse_f (s : ByteArray) (h : s.size < 4294967281) (k : Nat) (hk : s.size + 1 < k) : Q.addr_Parse.f k s = some (parseRes (parseP s.data.toList)) := by
  obtain ⟨r, hr, hm⟩ := four_f s h k hk
  unfold Q.addr_Parse.f
  rw [hr]
  unfold parseP
  cases hf : fourP s.data.toList with
  | some v =>
    rw [hf] at hm
    simp only at hm
    subst hm
    rfl
  | none =>
    rw [hf] at hm
    simp only at hm
    have h4 : r.2.2.2 = false := by simpa using hm
    simp only [Option.bind_some, h4]
    unfold addr_six.f
    rw [if_pos h]
    cases sixP s.data.toList <;> rfl
end Go.Proofs.YtaekcldkfkiekaaDoor

namespace Go.Proofs.YtaekcldkfkiekaaDoor

/-- a row of noughts from one place to another -/
structure CutAt (g : List Int) (f t : Nat) : Prop where
  le : f ≤ t
  le2 : t ≤ g.length
  cut : g = g.take f ++ List.replicate (t - f) 0 ++ g.drop t

theorem takeWhile_zero : ∀ l : List Int, l = List.replicate (l.takeWhile (· == 0)).length 0 ++ l.drop (l.takeWhile (· == 0)).length
  | [] => rfl
  | x :: l => by
    by_cases hx : x = 0
    · subst hx
      have ih := takeWhile_zero l
      simp only [List.takeWhile_cons, BEq.rfl, if_true, List.length_cons, List.replicate_succ, List.drop_succ_cons, List.cons_append]
      rw [← ih]
    · have : (x == 0) = false := by simpa using hx
      simp [this]

theorem zend_cut (g : List Int) (i : Nat) (h : i ≤ g.length) : CutAt g i (zend g i) := by
  have h2 := zend_le g i h
  refine ⟨h2.1, h2.2, ?_⟩
  have h3 := takeWhile_zero (g.drop i)
  unfold zend
  rw [Nat.add_sub_cancel_left, ← List.drop_drop, List.append_assoc, ← h3, List.take_append_drop]

theorem cut_zero (g : List Int) : CutAt g 0 0 := ⟨Nat.le_refl _, Nat.zero_le _, by simp⟩

theorem longest_cut (g : List Int) : ∀ n, n ≤ g.length → CutAt g (longest g n).1 (longest g n).2
  | 0, _ => cut_zero g
  | n + 1, h => by
    unfold longest
    split
    · exact zend_cut g n (by omega)
    · exact longest_cut g n (by omega)

theorem all_zero : ∀ g : List Int, g.all (· == 0) = true → g = List.replicate g.length 0
  | [], _ => rfl
  | x :: g, h => by
    simp only [List.all_cons, Bool.and_eq_true, beq_iff_eq] at h
    rw [List.length_cons, List.replicate_succ, ← all_zero g h.2, h.1]

/-- the gap: none, or a row of two noughts or more -/
theorem gapOf_cut (g : List Int) (h : g.length = 8) : ((gapOf g).2 = 0 ∧ (gapOf g).1 = 0) ∨ (CutAt g (gapOf g).1 (gapOf g).2 ∧ (gapOf g).1 + 2 ≤ (gapOf g).2) := by
  unfold gapOf
  split
  · rename_i ha
    have hz := all_zero g ha
    rw [h] at hz
    exact Or.inr ⟨⟨by omega, by rw [h]; exact Nat.le_refl _, by simp [h, ← hz]⟩, by omega⟩
  · split
    · exact Or.inl ⟨rfl, rfl⟩
    · exact Or.inr ⟨longest_cut g 8 (by omega), by omega⟩

theorem intsOf_inj : ∀ {a b : List Nat}, intsOf a = intsOf b → a = b
  | [], [], _ => rfl
  | x :: a, y :: b, h => by
    simp only [intsOf, List.map_cons, List.cons.injEq, Int.natCast_inj] at h
    rw [h.1, intsOf_inj h.2]
  | [], _ :: _, h => by simp [intsOf] at h
  | _ :: _, [], h => by simp [intsOf] at h

theorem cut_nat {l : List Nat} {f t : Nat} (h : CutAt (intsOf l) f t) : l = l.take f ++ List.replicate (t - f) 0 ++ l.drop t := by
  apply intsOf_inj
  have := h.cut
  simpa [intsOf, List.map_take, List.map_drop] using this

theorem pack_back (hi lo : Nat) (h1 : hi < 18446744073709551616) (l1 : lo < 18446744073709551616) : packL (intsOf (groupsN hi lo)) = ((hi : Int), (lo : Int)) := by
  show (or4 _ _ _ _, or4 _ _ _ _) = _
  rw [or4_nat _ _ _ _ (by omega) (by omega) (by omega) (by omega), or4_nat _ _ _ _ (by omega) (by omega) (by omega) (by omega)]
  unfold pack4
  congr 2 <;> omega

theorem spells_take {l : List Nat} (h : ∀ n ∈ l, n < 65536) (f : Nat) : Spells ((l.take f).map hx) (l.take f) := hx_all _ (fun n hn => h n (List.mem_of_mem_take hn))
theorem spells_drop {l : List Nat} (h : ∀ n ∈ l, n < 65536) (f : Nat) : Spells ((l.drop f).map hx) (l.drop f) := hx_all _ (fun n hn => h n (List.mem_of_mem_drop hn))

theorem sixP_txt (hi lo : Nat) : sixP (sixTxt hi lo) = some (groupsN hi lo) ∧ 46 ∉ sixTxt hi lo := by
  have hlt := groupsN_lt hi lo
  have h8 := groupsN_len hi lo
  have hg := gapOf_cut (groupsOf hi lo) rfl
  unfold sixTxt
  generalize hgap : gapOf (groupsOf (hi : Int) (lo : Int)) = ft at hg ⊢
  obtain ⟨f, t⟩ := ft
  simp only at hg ⊢
  rw [← groupsN_ints] at hg
  generalize groupsN hi lo = l at hlt h8 hg ⊢
  rcases hg with ⟨h0, h1⟩ | ⟨hc, h2⟩
  · rw [if_pos h0]
    exact ⟨sixP_whole (hx_all _ hlt) h8, no_dot (hx_all _ hlt)⟩
  · rw [if_neg (by omega)]
    have hle : t ≤ 8 := by have := hc.le2; simpa [intsOf, h8] using this
    refine ⟨?_, ?_⟩
    · rw [textsP_join, textsP_join, sixP_gap (spells_take hlt f) (spells_drop hlt t) (by rw [List.length_take, List.length_drop, h8]; omega)]
      congr 1
      rw [List.length_take, List.length_drop, h8, show 8 - min f 8 - (8 - t) = t - f by omega]
      exact (cut_nat hc).symm
    · intro hm
      rcases List.mem_append.1 hm with hm | hm
      · rcases List.mem_append.1 hm with hm | hm
        · exact no_dot (spells_take hlt f) hm
        · exact absurd hm (by decide)
      · exact no_dot (spells_drop hlt t) hm

theorem parse_six (hi lo : Nat) (h1 : hi < 18446744073709551616) (l1 : lo < 18446744073709551616) : parseP (sixTxt hi lo) = some (true, (hi : Int), (lo : Int)) := by
  obtain ⟨h, hd⟩ := sixP_txt hi lo
  unfold parseP
  rw [fourP_no _ hd, h]
  simp only [Option.map_some, pack_back hi lo h1 l1]

theorem parse_four (lo : Nat) (h : lo < 4294967296) : parseP (fourTxt lo) = some (false, 0, (lo : Int)) := by
  unfold parseP
  rw [fourP_txt lo h]

theorem txt_len (six : Bool) (hi lo : Int) : (ofL (printP six hi lo)).size ≤ 100 := by
  rw [ofL_size]
  unfold printP
  split
  · unfold sixTxt
    have e := groupsN_len hi.toNat lo.toNat
    split
    · have := textsP_len (groupsN hi.toNat lo.toNat) (by omega)
      rw [ofL_size] at this; omega
    · have h1 := textsP_len ((groupsN hi.toNat lo.toNat).take (gapOf (groupsOf hi.toNat lo.toNat)).1) (by rw [List.length_take]; omega)
      have h2 := textsP_len ((groupsN hi.toNat lo.toNat).drop (gapOf (groupsOf hi.toNat lo.toNat)).2) (by rw [List.length_drop]; omega)
      rw [ofL_size] at h1 h2
      simp only [List.length_append, List.length_cons, List.length_nil]
      omega
  · split
    · have hlen := join_len [46] 3 [Lib.decDigits (octOf lo 0), Lib.decDigits (octOf lo 1), Lib.decDigits (octOf lo 2), Lib.decDigits (octOf lo 3)] (fun x hx => by
        simp only [List.mem_cons, List.not_mem_nil, or_false] at hx
        rcases hx with rfl | rfl | rfl | rfl <;> exact decS_len _ (octOf_lt _ _))
      simp only [List.length_cons, List.length_nil] at hlen
      unfold fourTxt
      omega
    · simp

/-- B7: what a right address is told as is read as that address -/
theorem parse_print (six : Bool) (hi lo : Int) (h0 : 0 ≤ hi) (h1 : hi < 18446744073709551616) (l0 : 0 ≤ lo) (l1 : lo < 18446744073709551616) (hv : six = true ∨ hi = 0 ∧ lo < 4294967296) :
    parseP (printP six hi lo) = some (six, hi, lo) := by
  obtain ⟨hn, rfl⟩ := Int.eq_ofNat_of_zero_le h0
  obtain ⟨ln, rfl⟩ := Int.eq_ofNat_of_zero_le l0
  cases six with
  | true =>
    have := parse_six hn ln (by omega) (by omega)
    simpa [printP] using this
  | false =>
    obtain ⟨h2, h3⟩ := hv.resolve_left (by simp)
    have := parse_four ln (by omega)
    unfold printP
    rw [if_neg (by simp), if_pos ⟨h2, h3⟩, h2]
    exact this
end Go.Proofs.YtaekcldkfkiekaaDoor

namespace Go.Proofs.YtaekcldkfkiekaaDoor
open Go.RowKit Go.Proofs.YtaekcldkfkiekaaDoorW.PrintWords Go.Proofs.YtaekcldkfkiekaaDoorW.PrintLast Go.Proofs.YtaekcldkfkiekaaDoorW.PrintMore

theorem u64_nat {n : Nat} (h : n < 18446744073709551616) : IntKind.u64.wrap (n : Int) = n := by
  rw [IntKind.wrap_u64]; omega

theorem rd_at (xs : List Int) (i : Nat) : rd xs (i : Int) = xs.getD i 0 := by
  unfold rd; rw [Int.toNat_natCast]

theorem ofL_append (a b : List UInt8) : ofL a ++ ofL b = ofL (a ++ b) := rfl

theorem bt_nat (s : ByteArray) (i : Nat) (h : i < s.data.toList.length) : bt s (i : Int) = ((s.data.toList[i]).toNat : Int) := by
  have h2 : i < s.size := by rw [Array.length_toList] at h; exact h
  have := bt_at s (i : Int) (by rw [Int.toNat_natCast]; exact h2)
  rw [← this]
  simp [ByteArray.getElem_eq_getElem_data]

end Go.Proofs.YtaekcldkfkiekaaDoor

namespace Go.Proofs.YtaekcldkfkiekaaDoor
open Go.RowKit Go.Proofs.YtaekcldkfkiekaaDoorW.PrintWords Go.Proofs.YtaekcldkfkiekaaDoorW.PrintLast Go.Proofs.YtaekcldkfkiekaaDoorW.PrintMore

theorem ofL_extract (l : List UInt8) (a b : Nat) : (ofL l).extract a b = ofL ((l.drop a).take (b - a)) := by
  apply ByteArray.ext
  rw [ByteArray.data_extract]
  apply Array.ext'
  simp [ofL, List.take_drop]

/-- bytes ahead of the first part -/
def headed (p : List UInt8) : List (List UInt8) → List (List UInt8)
  | [] => [p]
  | q :: qs => (p ++ q) :: qs

theorem headed_nil (c : UInt8) (l : List UInt8) : headed [] (splitOn c l) = splitOn c l := by
  cases h : splitOn c l with
  | nil => exact absurd h (splitOn_ne c l)
  | cons q qs => rfl

theorem splitOn_cons (c x : UInt8) (l : List UInt8) : splitOn c (x :: l) = if x = c then [] :: splitOn c l else headed [x] (splitOn c l) := by
  rw [splitOn]
  split
  · rfl
  · cases splitOn c l <;> rfl

theorem headed_step (c x : UInt8) (p l : List UInt8) (h : x ≠ c) : headed p (splitOn c (x :: l)) = headed (p ++ [x]) (splitOn c l) := by
  rw [splitOn_cons, if_neg h]
  cases h : splitOn c l with
  | nil => exact absurd h (splitOn_ne c l)
  | cons q qs => simp [headed]

theorem wrap_nat1 (i : Nat) (h : i < 4294967296) : wrap64 ((i : Int) + 1) = ((i + 1 : Nat) : Int) := by unfold wrap64; omega

open Q in
theorem refSplit_l0 (l : List UInt8) (c : UInt8) (hl : l.length < 4294967281) : ∀ (d i f : Nat) (acc : List ByteArray), i + d = l.length → f ≤ i → acc.length ≤ i →
    Ev (fun k => crosswayref03_Split.l0 k (ofL l) (c.toNat : Int) acc (f : Int) (i : Int)) (acc ++ (headed ((l.drop f).take (i - f)) (splitOn c (l.drop i))).map ofL) := by
  have e1 := ofL_size l
  intro d
  induction d with
  | zero =>
    intro i f acc hd hf ha
    refine Ev.step (fun k => by simp only [crosswayref03_Split.l0]; rw [if_pos (by omega), if_pos (by omega), if_pos (by omega), if_pos (by omega), if_pos (by omega), wrap_nat1 i (by omega), Int.toNat_natCast, Int.toNat_natCast]) ?_
    refine Ev.step (f := fun _ => some (acc ++ [(ofL l).extract f i])) (fun k => by simp only [crosswayref03_Split.l0]; rw [if_neg (by omega)]) ?_
    rw [List.drop_eq_nil_of_le (show l.length ≤ i by omega), ofL_extract]
    simp only [splitOn, headed, List.map_cons, List.map_nil, List.append_nil]
    exact Ev.now _
  | succ d ih =>
    intro i f acc hd hf ha
    have hlt : i < l.length := by omega
    have hb := bt_nat (ofL l) i (by rw [ofL_data]; exact hlt)
    simp only [ofL_data] at hb
    have hdr : l.drop i = l[i] :: l.drop (i + 1) := List.drop_eq_getElem_cons hlt
    by_cases hc : l[i] = c
    · have hbt : bt (ofL l) (i : Int) = (c.toNat : Int) := by rw [hb, hc]
      refine Ev.step (fun k => by simp only [crosswayref03_Split.l0]; rw [if_pos (by omega), if_neg (by omega), if_pos (by omega), if_pos (by omega), if_pos hbt, if_pos (by omega), if_pos (by omega), if_pos (by omega), wrap_nat1 i (by omega), Int.toNat_natCast, Int.toNat_natCast]) ?_
      have := ih (i + 1) (i + 1) (acc ++ [(ofL l).extract f i]) (by omega) (Nat.le_refl _) (by simp; omega)
      rw [Nat.sub_self, List.take_zero, headed_nil] at this
      rw [hdr, hc]
      have e : headed ((l.drop f).take (i - f)) (splitOn c (c :: l.drop (i + 1))) = (l.drop f).take (i - f) :: splitOn c (l.drop (i + 1)) := by
        rw [splitOn_cons, if_pos rfl]
        simp [headed]
      rw [e, List.map_cons, ← ofL_extract]
      simpa using this
    · have hbt : ¬ bt (ofL l) (i : Int) = (c.toNat : Int) := by
        rw [hb]
        intro h
        exact hc (UInt8.toNat_inj.1 (by omega))
      refine Ev.step (fun k => by simp only [crosswayref03_Split.l0]; rw [if_pos (by omega), if_neg (by omega), if_pos (by omega), if_pos (by omega), if_neg hbt, wrap_nat1 i (by omega)]) ?_
      have := ih (i + 1) f acc (by omega) (by omega) (by omega)
      rw [hdr, headed_step c l[i] _ _ hc]
      have e : (l.drop f).take (i - f) ++ [l[i]] = (l.drop f).take (i + 1 - f) := by
        rw [show i + 1 - f = (i - f) + 1 by omega, List.take_succ_eq_append_getElem (by rw [List.length_drop]; omega)]
        congr 2
        rw [List.getElem_drop]
        congr 1
        omega
      rw [e]
      exact this

theorem refSplit_ev (l : List UInt8) (c : UInt8) (x : Int) (hx : x = (c.toNat : Int)) (hl : l.length < 4294967281) : Ev (fun k => Q.crosswayref03_Split.f k (ofL l) x) ((splitOn c l).map ofL) := by
  subst hx
  have := refSplit_l0 l c hl l.length 0 0 [] (by omega) (Nat.le_refl _) (by simp)
  simp only [List.nil_append, List.drop_zero, Nat.sub_self, List.take_zero, headed_nil] at this
  exact this

/-- a digit, told plainly -/
def digTold (n : Nat) : Option Nat := if 48 ≤ n ∧ n ≤ 57 then some (n - 48) else if 97 ≤ n ∧ n ≤ 122 then some (n - 87) else if 65 ≤ n ∧ n ≤ 90 then some (n - 55) else none

theorem digOf_all : ∀ n : Fin 256, digOf (UInt8.ofNat n.val) = digTold n.val := by decide +kernel

theorem digOf_told (c : UInt8) : digOf c = digTold c.toNat := by
  have := digOf_all ⟨c.toNat, c.toNat_lt⟩
  simpa using this

/-- a number, or below 0: none -/
def orNone : Option Nat → Int
  | some n => (n : Int)
  | none => -1

theorem num_cons (b n : Nat) (c : UInt8) (cs : List UInt8) : num b n (c :: cs) = (match digTold c.toNat with | none => none | some d => if d < b then num b (n * b + d) cs else none) := by
  rw [← digOf_told]; rfl

theorem wrap64_lt (n : Nat) (h : n < 1000000) : wrap64 (n : Int) = n := by unfold wrap64; omega

theorem wrap_digit (b v c a : Nat) (hb : b ≤ 16) (hv : v < 10000) (h : a ≤ c) (h2 : c < a + 256) : wrap64 (wrap64 ((b : Int) * (v : Int)) + ((c : Int) - (a : Int)) % 256) = ((v * b + (c - a) : Nat) : Int) := by
  have h3 : v * b ≤ v * 16 := Nat.mul_le_mul_left v hb
  rw [show (b : Int) * (v : Int) = ((v * b : Nat) : Int) by rw [Int.natCast_mul, Int.mul_comm], wrap64_lt (v * b) (by omega), show ((c : Int) - (a : Int)) % 256 = ((c - a : Nat) : Int) by omega]
  rw [← Int.natCast_add, wrap64_lt (v * b + (c - a)) (by omega)]

theorem wrap_letter (v c a : Nat) (hv : v < 10000) (h : a ≤ c) (h2 : c < a + 256) (x : Nat) (hx : x = c - a + 10) : wrap64 (wrap64 (wrap64 (16 * (v : Int)) + ((c : Int) - (a : Int)) % 256) + 10) = ((v * 16 + x : Nat) : Int) := by
  have := wrap_digit 16 v c a (by omega) hv h h2
  rw [show ((16 : Nat) : Int) = 16 from rfl] at this
  rw [this, show ((v * 16 + (c - a) : Nat) : Int) + 10 = ((v * 16 + x : Nat) : Int) by omega, wrap64_lt _ (by omega)]

open Q in
theorem decimal_l0 (l : List UInt8) (h3 : l.length ≤ 3) : ∀ (d i v : Nat), i + d = l.length → v < 10 ^ i →
    Ev (fun k => crosswayref03_decimal.l0 k (ofL l) (v : Int) (i : Int)) (match num 10 v (l.drop i) with | some n => if 255 < n then -1 else (n : Int) | none => -1) := by
  have e1 := ofL_size l
  intro d
  induction d with
  | zero =>
    intro i v hd hv
    rw [List.drop_eq_nil_of_le (by omega)]
    simp only [num]
    by_cases h : 255 < v
    · rw [if_pos h]
      exact Ev.step (f := fun _ => some (-1)) (fun k => by simp only [crosswayref03_decimal.l0]; rw [if_neg (by omega), if_pos (by omega)]) (Ev.now _)
    · rw [if_neg h]
      exact Ev.step (f := fun _ => some (v : Int)) (fun k => by simp only [crosswayref03_decimal.l0]; rw [if_neg (by omega), if_neg (by omega)]) (Ev.now _)
  | succ d ih =>
    intro i v hd hv
    have hlt : i < l.length := by omega
    have hb := bt_nat (ofL l) i (by rw [ofL_data]; exact hlt)
    simp only [ofL_data] at hb
    have h10 : 10 ^ i ≤ 10 ^ 2 := Nat.pow_le_pow_right (by omega) (by omega)
    rw [List.drop_eq_getElem_cons hlt, num_cons]
    generalize l[i] = c at hb
    unfold digTold
    have hc := c.toNat_lt
    by_cases h48 : c.toNat < 48
    · rw [if_neg (by omega), if_neg (by omega), if_neg (by omega)]
      exact Ev.step (f := fun _ => some (-1)) (fun k => by simp only [crosswayref03_decimal.l0]; rw [if_pos (by omega), if_pos (by omega), if_pos (by omega)]) (Ev.now _)
    · by_cases h57 : 57 < c.toNat
      · have e : (match (if 48 ≤ c.toNat ∧ c.toNat ≤ 57 then some (c.toNat - 48) else if 97 ≤ c.toNat ∧ c.toNat ≤ 122 then some (c.toNat - 87) else if 65 ≤ c.toNat ∧ c.toNat ≤ 90 then some (c.toNat - 55) else none) with
            | none => none | some d => if d < 10 then num 10 (v * 10 + d) (l.drop (i + 1)) else none) = none := by
          rw [if_neg (by omega)]
          split
          · rfl
          · rename_i d hd2
            rw [if_neg]
            intro hlt10
            split at hd2
            · simp only [Option.some.injEq] at hd2; omega
            · split at hd2
              · simp only [Option.some.injEq] at hd2; omega
              · cases hd2
        rw [e]
        exact Ev.step (f := fun _ => some (-1)) (fun k => by simp only [crosswayref03_decimal.l0]; rw [if_pos (by omega), if_pos (by omega), if_neg (by omega), if_pos (by omega)]) (Ev.now _)
      · rw [if_pos (by omega)]
        simp only []
        rw [if_pos (by omega)]
        have hw := wrap_digit 10 v c.toNat 48 (by omega) (by omega) (by omega) (by omega)
        rw [show ((10 : Nat) : Int) = 10 from rfl, show ((48 : Nat) : Int) = 48 from rfl] at hw
        refine Ev.step (fun k => by simp only [crosswayref03_decimal.l0]; rw [if_pos (by omega), if_pos (by omega), if_neg (by omega), if_neg (by omega), hb, hw, wrap_nat1 i (by omega)]) ?_
        exact ih (i + 1) _ (by omega) (by rw [Nat.pow_succ]; omega)

theorem refDecimal_ev (l : List UInt8) : Ev (fun k => Q.crosswayref03_decimal.f k (ofL l)) (orNone (octP l)) := by
  have e1 := ofL_size l
  have no : ∀ b, b = true → orNone (octP l) = -1 → Ev (fun k => Q.crosswayref03_decimal.j0 k (ofL l) b) (orNone (octP l)) := fun b hb h => by
    rw [h, hb]
    exact Ev.step (f := fun _ => some (-1)) (fun k => by simp only [Q.crosswayref03_decimal.j0]; rw [if_pos trivial]) (Ev.now _)
  unfold Q.crosswayref03_decimal.f
  by_cases h0 : l = []
  · subst h0
    refine Ev.congr (fun k => by rw [if_pos (by rw [toList_nil]; rfl)]) (no true rfl rfl)
  · have hpos : 0 < l.length := List.length_pos_iff.2 h0
    have hne : ¬ (ofL l).toList = [] := by rw [toList_nil, ofL_data]; exact h0
    by_cases h3 : 3 < l.length
    · refine Ev.congr (fun k => by rw [if_neg hne, if_pos (by omega)]) (no true rfl ?_)
      unfold octP numP
      rw [if_pos (by omega)]
      rfl
    · have hb := bt_nat (ofL l) 0 (by rw [ofL_data]; exact hpos)
      simp only [ofL_data] at hb
      have hh : l.head? = some l[0] := by rw [List.head?_eq_getElem?, List.getElem?_eq_getElem hpos]
      have hgo : (1 < l.length ∧ l.head? = some 48 → False) → Ev (fun k => Q.crosswayref03_decimal.j0 k (ofL l) false) (orNone (octP l)) := fun hno => by
        refine Ev.step (fun k => by simp only [Q.crosswayref03_decimal.j0]; rw [if_neg (by simp)]) ?_
        have := decimal_l0 l (by omega) l.length 0 0 (by omega) (by simp)
        rw [List.drop_zero] at this
        have e : orNone (octP l) = (match num 10 0 l with | some n => if 255 < n then -1 else (n : Int) | none => -1) := by
          unfold octP numP
          rw [if_neg (by omega)]
          cases num 10 0 l with
          | none => rfl
          | some n =>
            simp only []
            by_cases h255 : 255 < n
            · rw [if_pos h255, if_pos h255]; rfl
            · rw [if_neg h255, if_neg h255, if_neg hno]; rfl
        rw [e]
        exact this
      by_cases h48 : l[0] = 48
      · have hbt : bt (ofL l) 0 = 48 := by
          have := hb; rw [h48] at this; exact this
        by_cases h1 : 1 < l.length
        · refine Ev.congr (fun k => by rw [if_neg hne, if_neg (by omega), if_pos (by omega), if_pos hbt]) (no _ (by simp; omega) ?_)
          unfold octP
          cases numP 10 3 l with
          | none => rfl
          | some n =>
            simp only []
            split
            · rfl
            · rw [if_pos ⟨h1, by rw [hh, h48]⟩]; rfl
        · refine Ev.congr (fun k => by rw [if_neg hne, if_neg (by omega), if_pos (by omega), if_pos hbt, show decide (((ofL l).size : Int) > 1) = false by simp; omega]) (hgo (fun h => by omega))
      · have hbt : ¬ bt (ofL l) 0 = 48 := by
          have h2 : bt (ofL l) 0 = ((l[0]).toNat : Int) := hb
          rw [h2]
          intro h
          exact h48 (UInt8.toNat_inj.1 (by show _ = 48; omega))
        refine Ev.congr (fun k => by rw [if_neg hne, if_neg (by omega), if_pos (by omega), if_neg hbt]) (hgo (fun h => h48 ?_))
        rw [hh, Option.some.injEq] at h
        exact h.2

open Q in
theorem group_l0 (l : List UInt8) (h4 : l.length ≤ 4) : ∀ (d i v : Nat), i + d = l.length → v < 16 ^ i →
    Ev (fun k => crosswayref03_group.l0 k (ofL l) (v : Int) (i : Int)) (orNone (num 16 v (l.drop i))) := by
  have e1 := ofL_size l
  intro d
  induction d with
  | zero =>
    intro i v hd hv
    rw [List.drop_eq_nil_of_le (by omega)]
    exact Ev.step (f := fun _ => some (v : Int)) (fun k => by simp only [crosswayref03_group.l0]; rw [if_neg (by omega)]) (Ev.now _)
  | succ d ih =>
    intro i v hd hv
    have hlt : i < l.length := by omega
    have hb := bt_nat (ofL l) i (by rw [ofL_data]; exact hlt)
    simp only [ofL_data] at hb
    have h16 : 16 ^ i ≤ 16 ^ 3 := Nat.pow_le_pow_right (by omega) (by omega)
    rw [List.drop_eq_getElem_cons hlt, num_cons]
    generalize l[i] = c at hb
    unfold digTold
    have hc := c.toNat_lt
    have go : ∀ x : Nat, x < 16 → Ev (fun k => crosswayref03_group.l0 k (ofL l) ((v * 16 + x : Nat) : Int) ((i + 1 : Nat) : Int)) (orNone (num 16 (v * 16 + x) (l.drop (i + 1)))) := fun x hx =>
      ih (i + 1) _ (by omega) (by rw [Nat.pow_succ]; omega)
    have bad : Ev (fun _ : Nat => some (-1 : Int)) (orNone none) := Ev.now _
    -- the code's steps
    have s0 : ∀ r, Ev (fun k => crosswayref03_group.j2 k (ofL l) (v : Int) (i : Int) (c.toNat : Int) (decide (48 ≤ c.toNat ∧ c.toNat ≤ 57))) r → Ev (fun k => crosswayref03_group.l0 k (ofL l) (v : Int) (i : Int)) r := fun r h => by
      by_cases h48 : 48 ≤ c.toNat
      · refine Ev.step (fun k => by simp only [crosswayref03_group.l0]; rw [if_pos (by omega), if_pos (by omega), hb, if_pos (by omega)]) ?_
        rw [show decide ((c.toNat : Int) ≤ 57) = decide (48 ≤ c.toNat ∧ c.toNat ≤ 57) by rw [decide_eq_decide]; omega]
        exact h
      · refine Ev.step (fun k => by simp only [crosswayref03_group.l0]; rw [if_pos (by omega), if_pos (by omega), hb, if_neg (by omega)]) ?_
        rw [show decide (48 ≤ c.toNat ∧ c.toNat ≤ 57) = false by simp; omega] at h
        exact h
    refine s0 _ ?_
    by_cases hd : 48 ≤ c.toNat ∧ c.toNat ≤ 57
    · rw [if_pos hd, decide_eq_true hd]
      simp only []
      rw [if_pos (by omega)]
      have hw := wrap_digit 16 v c.toNat 48 (by omega) (by omega) (by omega) (by omega)
      rw [show ((16 : Nat) : Int) = 16 from rfl, show ((48 : Nat) : Int) = 48 from rfl] at hw
      exact Ev.step (fun k => by simp only [crosswayref03_group.j2]; rw [if_pos trivial, hw, wrap_nat1 i (by omega)]) (go _ (by omega))
    · rw [if_neg hd, decide_eq_false hd]
      have s1 : ∀ r, Ev (fun k => crosswayref03_group.j3 k (ofL l) (v : Int) (i : Int) (c.toNat : Int) (decide (97 ≤ c.toNat ∧ c.toNat ≤ 102))) r → Ev (fun k => crosswayref03_group.j2 k (ofL l) (v : Int) (i : Int) (c.toNat : Int) false) r := fun r h => by
        by_cases h97 : 97 ≤ c.toNat
        · refine Ev.step (fun k => by simp only [crosswayref03_group.j2]; rw [if_neg (by simp), if_pos (by omega)]) ?_
          rw [show decide ((c.toNat : Int) ≤ 102) = decide (97 ≤ c.toNat ∧ c.toNat ≤ 102) by rw [decide_eq_decide]; omega]
          exact h
        · refine Ev.step (fun k => by simp only [crosswayref03_group.j2]; rw [if_neg (by simp), if_neg (by omega)]) ?_
          rw [show decide (97 ≤ c.toNat ∧ c.toNat ≤ 102) = false by simp; omega] at h
          exact h
      refine s1 _ ?_
      by_cases ha : 97 ≤ c.toNat ∧ c.toNat ≤ 102
      · rw [if_pos (by omega), decide_eq_true ha]
        simp only []
        rw [if_pos (by omega)]
        have hw := wrap_letter v c.toNat 97 (by omega) (by omega) (by omega) (c.toNat - 87) (by omega)
        rw [show ((97 : Nat) : Int) = 97 from rfl] at hw
        exact Ev.step (fun k => by simp only [crosswayref03_group.j3]; rw [if_pos trivial, hw, wrap_nat1 i (by omega)]) (go _ (by omega))
      · rw [decide_eq_false ha]
        by_cases hA : 65 ≤ c.toNat ∧ c.toNat ≤ 70
        · rw [if_neg (by omega), if_pos (by omega)]
          simp only []
          rw [if_pos (by omega)]
          have hw := wrap_letter v c.toNat 65 (by omega) (by omega) (by omega) (c.toNat - 55) (by omega)
          rw [show ((65 : Nat) : Int) = 65 from rfl] at hw
          exact Ev.step (fun k => by simp only [crosswayref03_group.j3]; rw [if_neg (by simp), if_pos (by omega), if_pos (by omega), hw, wrap_nat1 i (by omega)]) (go _ (by omega))
        · have e : (match (if 97 ≤ c.toNat ∧ c.toNat ≤ 122 then some (c.toNat - 87) else if 65 ≤ c.toNat ∧ c.toNat ≤ 90 then some (c.toNat - 55) else none) with
              | none => none | some d => if d < 16 then num 16 (v * 16 + d) (l.drop (i + 1)) else none) = none := by
            split
            · rfl
            · rename_i d hd2
              rw [if_neg]
              intro hlt16
              split at hd2
              · simp only [Option.some.injEq] at hd2; omega
              · split at hd2
                · simp only [Option.some.injEq] at hd2; omega
                · cases hd2
          rw [e]
          by_cases h65 : 65 ≤ c.toNat
          · exact Ev.step (fun k => by simp only [crosswayref03_group.j3]; rw [if_neg (by simp), if_pos (by omega), if_neg (by omega)]) bad
          · exact Ev.step (fun k => by simp only [crosswayref03_group.j3]; rw [if_neg (by simp), if_neg (by omega)]) bad

theorem refGroup_ev (l : List UInt8) : Ev (fun k => Q.crosswayref03_group.f k (ofL l)) (orNone (numP 16 4 l)) := by
  have e1 := ofL_size l
  unfold Q.crosswayref03_group.f numP
  by_cases h0 : l = []
  · subst h0
    refine Ev.congr (fun k => by rw [if_pos (by rw [toList_nil]; rfl)]) ?_
    rw [if_pos (by simp)]
    exact Ev.step (f := fun _ => some (-1)) (fun k => by simp only [Q.crosswayref03_group.j0]; rw [if_pos trivial]) (Ev.now _)
  · have hpos : 0 < l.length := List.length_pos_iff.2 h0
    have hne : ¬ (ofL l).toList = [] := by rw [toList_nil, ofL_data]; exact h0
    by_cases h4 : 4 < l.length
    · rw [if_pos (by omega)]
      refine Ev.congr (fun k => by rw [if_neg hne, show decide (((ofL l).size : Int) > 4) = true by simp; omega]) ?_
      exact Ev.step (f := fun _ => some (-1)) (fun k => by simp only [Q.crosswayref03_group.j0]; rw [if_pos trivial]) (Ev.now _)
    · rw [if_neg (by omega)]
      refine Ev.congr (fun k => by rw [if_neg hne, show decide (((ofL l).size : Int) > 4) = false by simp; omega]) ?_
      refine Ev.step (fun k => by simp only [Q.crosswayref03_group.j0]; rw [if_neg (by simp)]) ?_
      have := group_l0 l (by omega) l.length 0 0 (by omega) (by simp)
      rw [List.drop_zero] at this
      exact this
end Go.Proofs.YtaekcldkfkiekaaDoor

namespace Go.Proofs.YtaekcldkfkiekaaDoor

theorem join_splitOn (c : UInt8) : ∀ l : List UInt8, Lib.join (splitOn c l) [c] = l
  | [] => rfl
  | x :: xs => by
    have ih := join_splitOn c xs
    unfold splitOn
    split
    · rename_i h
      subst h
      cases hs : splitOn x xs with
      | nil => exact absurd hs (splitOn_ne x xs)
      | cons p ps =>
        rw [hs] at ih
        rw [join_cons2, ih]
        rfl
    · split
      · rename_i hs
        exact absurd hs (splitOn_ne c xs)
      · rename_i p ps hs
        rw [hs] at ih
        cases ps with
        | nil => rw [Lib.join_one] at ih ⊢; rw [ih]
        | cons q ps => rw [join_cons2] at ih ⊢; rw [List.cons_append, ih]

/-- what the parts of a text take -/
def lensum (ps : List (List UInt8)) : Nat := (ps.map List.length).sum

theorem join_len_eq (c : UInt8) : ∀ ps : List (List UInt8), (Lib.join ps [c]).length + 1 = lensum ps + ps.length ∨ ps = []
  | [] => Or.inr rfl
  | [p] => Or.inl (by rw [Lib.join_one]; simp [lensum])
  | p :: q :: ps => by
    rcases join_len_eq c (q :: ps) with h | h
    · refine Or.inl ?_
      rw [join_cons2]
      simp only [List.length_append, List.length_cons, lensum, List.map_cons, List.sum_cons] at h ⊢
      omega
    · cases h

/-- what the digits of numbers take -/
def hexsum (l : List Nat) : Nat := (l.map fun n => (hx n).length).sum

theorem hexsum_append (a b : List Nat) : hexsum (a ++ b) = hexsum a + hexsum b := by simp [hexsum]
theorem hexsum_zeros (z : Nat) : hexsum (List.replicate z 0) = z := by
  unfold hexsum
  rw [List.map_replicate, show (hx 0).length = 1 from rfl]
  simp

theorem hx_min (n k : Nat) (h : n < 16 ^ k) (h1 : 1 ≤ k) (h4 : k ≤ 4) : (hx n).length ≤ k := by
  have e : (hx n).length = (if n < 16 then 1 else if n < 256 then 2 else if n < 4096 then 3 else 4) := by
    show ((hexn n _).map _).length = _
    rw [List.length_map, hexn_length]
  rw [e]
  rcases (by omega : k = 1 ∨ k = 2 ∨ k = 3 ∨ k = 4) with rfl | rfl | rfl | rfl
  · rw [if_pos (by omega)]; omega
  · split
    · omega
    · first | omega | (rw [if_pos (by omega)]; omega)
  · split
    · omega
    · split
      · omega
      · first | omega | (rw [if_pos (by omega)]; omega)
  · split
    · omega
    · split
      · omega
      · split <;> omega

theorem numP_hex {p : List UInt8} {n : Nat} (h : numP 16 4 p = some n) : (hx n).length ≤ p.length ∧ n < 65536 := by
  obtain ⟨h0, h1, h2⟩ := numP_ne h
  have hp : 1 ≤ p.length := by
    cases p with
    | nil => exact absurd rfl h0
    | cons _ _ => simp
  have := num_lt 16 p 0 n 0 (by omega) h2
  rw [Nat.zero_add] at this
  exact ⟨hx_min n p.length this hp h1, numP_lt h (by omega)⟩

theorem mapM_hex : ∀ {ps : List (List UInt8)} {ns : List Nat}, ps.mapM (numP 16 4) = some ns → ns.length = ps.length ∧ hexsum ns ≤ lensum ps ∧ ∀ n ∈ ns, n < 65536
  | [], ns, h => by
    simp only [List.mapM_nil, Option.pure_def, Option.some.injEq] at h
    subst h
    simp [hexsum, lensum]
  | p :: ps, ns, h => by
    rw [List.mapM_cons] at h
    simp only [Option.bind_eq_bind, Option.bind_eq_some_iff, Option.pure_def, Option.some.injEq] at h
    obtain ⟨n, hn, ms, hm, rfl⟩ := h
    obtain ⟨h1, h2, h3⟩ := mapM_hex hm
    obtain ⟨h4, h5⟩ := numP_hex hn
    refine ⟨by simp [h1], ?_, ?_⟩
    · simp only [hexsum, lensum, List.map_cons, List.sum_cons] at h2 ⊢
      omega
    · intro m hm
      rcases List.mem_cons.1 hm with rfl | hm
      · exact h5
      · exact h3 m hm

/-- a row that is read: what its numbers take -/
theorem rowP_hex {l : List UInt8} {x : List Nat} (h : rowP l = some x) : hexsum x + x.length ≤ l.length + 1 ∧ (x = [] → l = []) ∧ ∀ n ∈ x, n < 65536 := by
  unfold rowP at h
  split at h
  · rename_i h0
    obtain rfl := Option.some.inj h
    exact ⟨by simp [hexsum], fun _ => h0, by simp⟩
  · obtain ⟨h1, h2, h3⟩ := mapM_hex h
    have hj := join_len_eq 58 (splitOn 58 l)
    rw [join_splitOn] at hj
    have hne := splitOn_ne 58 l
    have hj := hj.resolve_right hne
    refine ⟨by omega, fun hx => ?_, h3⟩
    rw [hx] at h1
    exact absurd (List.eq_nil_of_length_eq_zero h1.symm) hne

theorem textsP_hex (l : List Nat) : (textsP l).length = hexsum l + l.length - 1 := by
  rw [textsP_join]
  have e : lensum (l.map hx) = hexsum l := by simp [lensum, hexsum, Function.comp_def]
  rcases join_len_eq 58 (l.map hx) with h | h
  · rw [e, List.length_map] at h
    omega
  · have : l = [] := List.map_eq_nil_iff.1 h
    subst this
    rfl

theorem cut_parts (l : List UInt8) : (Lib.cut l [58, 58]).2.2 = true → l.length = (Lib.cut l [58, 58]).1.length + 2 + (Lib.cut l [58, 58]).2.1.length := by
  have hr := Lib.index_room l [58, 58]
  unfold Lib.cut
  split
  · rename_i h
    intro _
    have := hr h
    simp only [List.length_take, List.length_drop, List.length_cons, List.length_nil] at this ⊢
    omega
  · intro h; cases h

theorem cut_whole (l : List UInt8) : (Lib.cut l [58, 58]).2.2 = false → (Lib.cut l [58, 58]).1 = l ∧ (Lib.cut l [58, 58]).2.1 = [] := by
  unfold Lib.cut
  split
  · intro h; cases h
  · intro _; exact ⟨rfl, rfl⟩

/-- what a text of groups takes: with a gap of z, or without one -/
theorem sixP_hex {l : List UInt8} {g : List Nat} (h : sixP l = some g) :
    g.length = 8 ∧ (∀ n ∈ g, n < 65536) ∧ (hexsum g + 7 ≤ l.length ∨ ∃ x y : List Nat, ∃ z, g = x ++ List.replicate z 0 ++ y ∧ x.length + z + y.length = 8 ∧ 1 ≤ z ∧
      2 + (hexsum x + x.length - 1) + (hexsum y + y.length - 1) ≤ l.length) := by
  unfold sixP at h
  split at h
  · rename_i x y hx hy
    obtain ⟨a1, a2, a3⟩ := rowP_hex hx
    obtain ⟨b1, b2, b3⟩ := rowP_hex hy
    split at h
    · rename_i hsh
      split at h
      · rename_i h7
        obtain rfl := Option.some.inj h
        have hl := cut_parts l hsh
        refine ⟨by simp; omega, ?_, Or.inr ⟨x, y, 8 - x.length - y.length, rfl, by omega, by omega, by omega⟩⟩
        intro n hn
        rcases List.mem_append.1 hn with hn | hn
        · rcases List.mem_append.1 hn with hn | hn
          · exact a3 n hn
          · have := List.eq_of_mem_replicate hn; omega
        · exact b3 n hn
      · cases h
    · rename_i hsh
      split at h
      · rename_i h8
        obtain rfl := Option.some.inj h
        obtain ⟨e1, e2⟩ := cut_whole l (by simpa using hsh)
        rw [e2] at hy
        obtain rfl : y = [] := (Option.some.inj hy).symm
        rw [e1] at a1
        refine ⟨by simpa using h8, by simp only [List.append_nil]; exact a3, Or.inl ?_⟩
        simp only [List.append_nil, List.length_nil] at h8 ⊢
        omega
      · cases h
  · cases h

theorem takeWhile_zeros (z : Nat) (y : List Int) : z ≤ ((List.replicate z 0 ++ y).takeWhile (· == (0 : Int))).length := by
  induction z with
  | zero => omega
  | succ z ih => simp [List.replicate_succ]

theorem longest_max (g : List Int) : ∀ n i, i < n → zend g i - i ≤ (longest g n).2 - (longest g n).1
  | n + 1, i, h => by
    unfold longest
    by_cases e : i = n
    · subst e
      split
      · exact Nat.le_refl _
      · omega
    · have ih := longest_max g n i (by omega)
      split
      · show _ ≤ zend g n - n; omega
      · exact ih

/-- the gap is as long as any row of noughts -/
theorem gapOf_max (x y : List Int) (z : Nat) (h8 : x.length + z + y.length = 8) (hz : 2 ≤ z) :
    (gapOf (x ++ List.replicate z 0 ++ y)).1 + z ≤ (gapOf (x ++ List.replicate z 0 ++ y)).2 := by
  have h1 : z ≤ zend (x ++ List.replicate z 0 ++ y) x.length - x.length := by
    unfold zend
    rw [List.append_assoc, List.drop_left]
    have := takeWhile_zeros z y
    omega
  have h2 := longest_max (x ++ List.replicate z 0 ++ y) 8 x.length (by omega)
  have h3 := longest_le (x ++ List.replicate z 0 ++ y) 8 (by simp; omega)
  unfold gapOf
  split
  · show 0 + z ≤ 8; omega
  · split
    · omega
    · omega

theorem groupsN_pack (a b c d e f g h : Nat) (ha : a < 65536) (hb : b < 65536) (hc : c < 65536) (hd : d < 65536) (he : e < 65536) (hf : f < 65536) (hg : g < 65536) (hh : h < 65536) :
    groupsN (pack4 a b c d) (pack4 e f g h) = [a, b, c, d, e, f, g, h] := by
  unfold groupsN pack4
  simp only [List.cons.injEq, and_true]
  omega

theorem list8 {l : List Nat} (h : l.length = 8) : ∃ a b c d e f g i, l = [a, b, c, d, e, f, g, i] := by
  match l, h with
  | [a, b, c, d, e, f, g, i], _ => exact ⟨a, b, c, d, e, f, g, i, rfl⟩

theorem pack_lt {a b c d : Nat} (ha : a < 65536) (hb : b < 65536) (hc : c < 65536) (hd : d < 65536) : pack4 a b c d < 18446744073709551616 := by
  unfold pack4; omega

theorem pack_groups {g : List Nat} (h8 : g.length = 8) (hlt : ∀ n ∈ g, n < 65536) : ∃ hi lo : Nat, packL (intsOf g) = ((hi : Int), (lo : Int)) ∧ groupsN hi lo = g ∧ hi < 18446744073709551616 ∧ lo < 18446744073709551616 := by
  obtain ⟨a, b, c, d, e, f, g, i, rfl⟩ := list8 h8
  simp only [List.mem_cons, List.not_mem_nil, or_false, forall_eq_or_imp, forall_eq] at hlt
  obtain ⟨ha, hb, hc, hd, he, hf, hg, hi⟩ := hlt
  refine ⟨pack4 a b c d, pack4 e f g i, ?_, groupsN_pack a b c d e f g i ha hb hc hd he hf hg hi, pack_lt ha hb hc hd, pack_lt he hf hg hi⟩
  show (or4 _ _ _ _, or4 _ _ _ _) = _
  rw [or4_nat a b c d ha hb hc hd, or4_nat e f g i he hf hg hi]

theorem hexsum_nil {l : List Nat} (h : l.length = 0) : hexsum l = 0 := by
  rw [List.eq_nil_of_length_eq_zero h]; rfl

/-- the text told is at most one byte longer than the one read -/
theorem six_short {l : List UInt8} {hi lo : Nat} (h : sixP l = some (groupsN hi lo)) : (sixTxt hi lo).length ≤ l.length + 1 := by
  obtain ⟨h8, hlt, hc⟩ := sixP_hex h
  have hg := gapOf_cut (groupsOf hi lo) rfl
  have hm : ∀ x y : List Nat, ∀ z, groupsN hi lo = x ++ List.replicate z 0 ++ y → x.length + z + y.length = 8 → 2 ≤ z → (gapOf (groupsOf hi lo)).1 + z ≤ (gapOf (groupsOf hi lo)).2 := by
    intro x y z e hl hz
    have := gapOf_max (intsOf x) (intsOf y) z (by simpa [intsOf] using hl) hz
    rw [← groupsN_ints, e]
    simpa [intsOf] using this
  unfold sixTxt
  generalize gapOf (groupsOf (hi : Int) (lo : Int)) = ft at hg hm ⊢
  obtain ⟨f, t⟩ := ft
  simp only at hg hm ⊢
  rw [← groupsN_ints] at hg
  generalize groupsN hi lo = gs at h8 hlt hc hg hm ⊢
  rcases hg with ⟨h0, h1⟩ | ⟨hcut, h2⟩
  · rw [if_pos h0, textsP_hex, h8]
    rcases hc with hc | ⟨x, y, z, e, hl, hz, hle⟩
    · omega
    · have hz1 : z = 1 := by
        rcases Nat.lt_or_ge z 2 with h3 | h3
        · omega
        · have := hm x y z e hl h3; omega
      subst hz1
      have e2 : hexsum gs = hexsum x + 1 + hexsum y := by rw [e, hexsum_append, hexsum_append, hexsum_zeros]
      omega
  · rw [if_neg (by omega)]
    have ht8 : t ≤ 8 := by have := hcut.le2; simpa [intsOf, h8] using this
    have e1 := cut_nat hcut
    have lt1 : (gs.take f).length = f := by rw [List.length_take, h8]; omega
    have ld1 : (gs.drop t).length = 8 - t := by rw [List.length_drop, h8]
    have e3 : hexsum gs = hexsum (gs.take f) + (t - f) + hexsum (gs.drop t) := by
      conv => lhs; rw [e1]
      rw [hexsum_append, hexsum_append, hexsum_zeros]
    simp only [List.length_append, textsP_hex, lt1, ld1, List.length_cons, List.length_nil]
    have n1 := fun h => hexsum_nil (l := gs.take f) h
    have n2 := fun h => hexsum_nil (l := gs.drop t) h
    rw [lt1] at n1
    rw [ld1] at n2
    rcases hc with hc | ⟨x, y, z, e, hl, hz, hle⟩
    · omega
    · have e2 : hexsum gs = hexsum x + z + hexsum y := by rw [e, hexsum_append, hexsum_append, hexsum_zeros]
      have hzm : z ≤ t - f := by
        rcases Nat.lt_or_ge z 2 with h3 | h3
        · omega
        · have := hm x y z e hl h3; omega
      have n3 := fun h => hexsum_nil (l := x) h
      have n4 := fun h => hexsum_nil (l := y) h
      omega
end Go.Proofs.YtaekcldkfkiekaaDoor

namespace Go.Proofs.YtaekcldkfkiekaaDoor
open Go.RowKit Go.Proofs.YtaekcldkfkiekaaDoorW.PrintWords Go.Proofs.YtaekcldkfkiekaaDoorW.PrintLast Go.Proofs.YtaekcldkfkiekaaDoorW.PrintMore

theorem index_two_none (l : List UInt8) (i : Nat) (h : ∀ j, j < i → Lib.occAt l [58, 58] j = false) (hl : l.length ≤ i + 1) : Lib.index l [58, 58] = -1 := by
  refine Lib.index_none (fun j _ => ?_)
  rcases Nat.lt_or_ge j i with hj | hj
  · exact h j hj
  · cases ho : Lib.occAt l [58, 58] j with
    | false => rfl
    | true =>
      obtain ⟨_, h2⟩ := (occ_two _ _).1 ho
      rw [List.getElem?_eq_none (by omega)] at h2
      cases h2

theorem byte_colon {l : List UInt8} {i : Nat} (h : i < l.length) : bt (ofL l) (i : Int) = 58 ↔ l[i]? = some 58 := by
  have hb := bt_nat (ofL l) i (by rw [ofL_data]; exact h)
  simp only [ofL_data] at hb
  rw [hb, List.getElem?_eq_getElem h, Option.some.injEq]
  constructor
  · intro h
    exact UInt8.toNat_inj.1 (by show _ = 58; omega)
  · intro h
    rw [h]; rfl

open Q in
theorem six_l0 (l : List UInt8) (hl : l.length < 4294967281) (r : List Int × Int × Bool) (hj : Ev (fun k => crosswayref03_six.j1 k (ofL l) (Lib.index l [58, 58])) r) : ∀ (d i : Nat), i + d = l.length → (∀ j, j < i → Lib.occAt l [58, 58] j = false) →
    Ev (fun k => crosswayref03_six.l0 k (ofL l) (-1) (i : Int)) r := by
  have e1 := ofL_size l
  intro d
  induction d with
  | zero =>
    intro i hd h
    rw [index_two_none l i h (by omega)] at hj
    exact Ev.step (fun k => by simp only [crosswayref03_six.l0]; rw [wrap_nat1 i (by omega), if_neg (by omega)]) hj
  | succ d ih =>
    intro i hd h
    by_cases h1 : i + 1 < l.length
    · have c0 := byte_colon (l := l) (i := i) (by omega)
      have c1 := byte_colon (l := l) (i := i + 1) (by omega)
      have next : Lib.occAt l [58, 58] i = false → Ev (fun k => crosswayref03_six.l0 k (ofL l) (-1) ((i + 1 : Nat) : Int)) r := fun ho =>
        ih (i + 1) (by omega) (fun j hj2 => by
          rcases Nat.lt_or_ge j i with h2 | h2
          · exact h j h2
          · obtain rfl : j = i := by omega
            exact ho)
      by_cases hb0 : l[i]? = some 58
      · by_cases hb1 : l[i + 1]? = some 58
        · rw [Lib.index_first (by omega) ((occ_two l i).2 ⟨hb0, hb1⟩) h] at hj
          exact Ev.step (fun k => by simp only [crosswayref03_six.l0]; rw [wrap_nat1 i (by omega), if_pos (by omega), if_pos (by omega), if_pos (by omega), if_pos (c0.2 hb0), if_pos (by omega), if_pos (c1.2 hb1)]) hj
        · refine Ev.step (fun k => by simp only [crosswayref03_six.l0]; rw [wrap_nat1 i (by omega), if_pos (by omega), if_pos (by omega), if_pos (by omega), if_pos (c0.2 hb0), if_pos (by omega), if_neg (fun e => hb1 (c1.1 e))]) (next ?_)
          cases ho : Lib.occAt l [58, 58] i with
          | false => rfl
          | true => exact absurd ((occ_two l i).1 ho).2 hb1
      · refine Ev.step (fun k => by simp only [crosswayref03_six.l0]; rw [wrap_nat1 i (by omega), if_pos (by omega), if_pos (by omega), if_pos (by omega), if_neg (fun e => hb0 (c0.1 e))]) (next ?_)
        cases ho : Lib.occAt l [58, 58] i with
        | false => rfl
        | true => exact absurd ((occ_two l i).1 ho).1 hb0
    · rw [index_two_none l i h (by omega)] at hj
      exact Ev.step (fun k => by simp only [crosswayref03_six.l0]; rw [wrap_nat1 i (by omega), if_neg (by omega)]) hj

theorem rdOf_ofL (ps : List (List UInt8)) (i : Nat) (h : i < ps.length) : rdOf ByteArray.empty (ps.map ofL) (i : Int) = ofL ps[i] := by
  rw [rdOf_nat (by rw [List.length_map]; exact h), List.getElem_map]

open Q in
theorem six_l2 (x5 x9 x10 : Int) (x7 : List ByteArray) (ps : List (List UInt8)) (hps : ps.length < 4294967290) : ∀ (d i : Nat) (acc : List Nat), i + d = ps.length → acc.length + d < 9000000000 →
    (((ps.drop i).mapM (numP 16 4) = none → Ev (fun k => crosswayref03_six.l2 k x5 x7 (intsOf acc) x9 x10 (ps.map ofL) (i : Int)) ([], 0, false)) ∧
     (∀ ns, (ps.drop i).mapM (numP 16 4) = some ns → ∀ r, Ev (fun k => crosswayref03_six.l1 k x5 x7 (intsOf (acc ++ ns)) x9 (wrap64 (x10 + 1))) r → Ev (fun k => crosswayref03_six.l2 k x5 x7 (intsOf acc) x9 x10 (ps.map ofL) (i : Int)) r)) := by
  have hl : ((ps.map ofL).length : Int) = ps.length := by rw [List.length_map]
  intro d
  induction d with
  | zero =>
    intro i acc hd ha
    rw [List.drop_eq_nil_of_le (by omega)]
    refine ⟨fun h => by simp at h, fun ns h r hr => ?_⟩
    simp only [List.mapM_nil, Option.pure_def, Option.some.injEq] at h
    subst h
    rw [List.append_nil] at hr
    exact Ev.step (fun k => by simp only [crosswayref03_six.l2]; rw [hl, if_neg (by omega)]) hr
  | succ d ih =>
    intro i acc hd ha
    have hlt : i < ps.length := by omega
    have hg := refGroup_ev ps[i]
    have hil : (intsOf acc).length = acc.length := by simp [intsOf]
    have hstep : ∀ r, Ev (fun k => if orNone (numP 16 4 ps[i]) < 0 then some (([] : List Int), (0 : Int), false) else (if (intsOf acc).length < 17592186044416 then (crosswayref03_six.l2 k x5 x7 (intsOf acc ++ [orNone (numP 16 4 ps[i])]) x9 x10 (ps.map ofL) ((i + 1 : Nat) : Int)) else none)) r →
        Ev (fun k => crosswayref03_six.l2 k x5 x7 (intsOf acc) x9 x10 (ps.map ofL) (i : Int)) r := fun r hr => by
      refine Ev.step (fun k => by simp only [crosswayref03_six.l2]; rw [hl, if_pos (by omega), if_pos (by omega), rdOf_ofL ps i hlt]) (Ev.bind hg ?_)
      refine Ev.congr (fun k => by rw [wrap_nat1 i (by omega)]) hr
    rw [List.drop_eq_getElem_cons hlt, List.mapM_cons]
    cases hn : numP 16 4 ps[i] with
    | none =>
      rw [hn] at hstep
      refine ⟨fun _ => hstep _ (Ev.congr (f := fun _ => some (([] : List Int), (0 : Int), false)) (fun k => by rw [if_pos (by decide)]) (Ev.now _)), fun ns h => by simp at h⟩
    | some n =>
      rw [hn] at hstep
      have e : intsOf acc ++ [orNone (some n)] = intsOf (acc ++ [n]) := by simp [intsOf, orNone]
      obtain ⟨q1, q2⟩ := ih (i + 1) (acc ++ [n]) (by omega) (by simp; omega)
      refine ⟨fun h => ?_, fun ns h r hr => ?_⟩
      · refine hstep _ (Ev.congr (fun k => by rw [if_neg (by simp only [orNone]; omega), if_pos (by omega), e]) (q1 ?_))
        cases hm : (ps.drop (i + 1)).mapM (numP 16 4) with
        | none => rfl
        | some ms => rw [hm] at h; simp at h
      · cases hm : (ps.drop (i + 1)).mapM (numP 16 4) with
        | none => rw [hm] at h; simp at h
        | some ms =>
          rw [hm] at h
          simp only [Option.pure_def, Option.bind_eq_bind, Option.bind_some, Option.some.injEq] at h
          subst h
          refine hstep _ (Ev.congr (fun k => by rw [if_neg (by simp only [orNone]; omega), if_pos (by omega), e]) (q2 ms hm r ?_))
          rw [List.append_assoc]
          exact hr

/-- one part's groups, as the reference reads it -/
def partP (gap : Bool) (p : List UInt8) : Option (List Nat) := if gap = true ∧ p = [] then some [] else (splitOn 58 p).mapM (numP 16 4)

theorem partP_row (p : List UInt8) : partP true p = rowP p := by
  unfold partP rowP
  by_cases h : p = []
  · rw [if_pos ⟨rfl, h⟩, if_pos h]
  · rw [if_neg (fun e => h e.2), if_neg h]

open Q in
/-- one part -/
theorem six_part (x5 x9 : Int) (x7 : List ByteArray) (i : Nat) (p : List UInt8) (hi2 : i < 2) (h7 : i < x7.length) (hrd : rdOf ByteArray.empty x7 (i : Int) = ofL p) (hp : p.length < 4294967281) (acc : List Nat) (ha : acc.length < 4294967300) :
    ((partP (decide (0 ≤ x5)) p = none → Ev (fun k => crosswayref03_six.l1 k x5 x7 (intsOf acc) x9 (i : Int)) ([], 0, false)) ∧
     (∀ ns, partP (decide (0 ≤ x5)) p = some ns → ∀ r, Ev (fun k => crosswayref03_six.l1 k x5 x7 (intsOf (acc ++ ns)) (if i = 1 then (acc.length : Int) else x9) ((i + 1 : Nat) : Int)) r → Ev (fun k => crosswayref03_six.l1 k x5 x7 (intsOf acc) x9 (i : Int)) r)) := by
  have hil : ((intsOf acc).length : Int) = acc.length := by simp [intsOf]
  -- to the test
  have s1 : ∀ r, Ev (fun k => crosswayref03_six.j4 k x5 x7 (intsOf acc) (if i = 1 then (acc.length : Int) else x9) (i : Int)) r → Ev (fun k => crosswayref03_six.l1 k x5 x7 (intsOf acc) x9 (i : Int)) r := fun r hr => by
    by_cases h1 : i = 1
    · rw [if_pos h1] at hr
      exact Ev.step (fun k => by simp only [crosswayref03_six.l1]; rw [if_pos (by omega), if_pos (by omega), hil]) hr
    · rw [if_neg h1] at hr
      exact Ev.step (fun k => by simp only [crosswayref03_six.l1]; rw [if_pos (by omega), if_neg (by omega)]) hr
  generalize (if i = 1 then (acc.length : Int) else x9) = y9 at s1
  have s2 : ∀ r, Ev (fun k => crosswayref03_six.j5 k x5 x7 (intsOf acc) y9 (i : Int) (decide (0 ≤ x5 ∧ p = []))) r → Ev (fun k => crosswayref03_six.l1 k x5 x7 (intsOf acc) x9 (i : Int)) r := fun r hr => by
    refine s1 r ?_
    by_cases h0 : p = []
    · refine Ev.step (fun k => by simp only [crosswayref03_six.j4]; rw [if_pos (by omega), if_pos (by omega), hrd, if_pos (by rw [toList_nil, ofL_data]; exact h0)]) ?_
      rw [show decide (x5 ≥ 0) = decide (0 ≤ x5 ∧ p = []) by rw [decide_eq_decide]; simp [h0]]
      exact hr
    · refine Ev.step (fun k => by simp only [crosswayref03_six.j4]; rw [if_pos (by omega), if_pos (by omega), hrd, if_neg (by rw [toList_nil, ofL_data]; exact h0)]) ?_
      rw [show decide (0 ≤ x5 ∧ p = []) = false by simp [h0]] at hr
      exact hr
  by_cases hskip : 0 ≤ x5 ∧ p = []
  · rw [decide_eq_true hskip] at s2
    have e : partP (decide (0 ≤ x5)) p = some [] := by unfold partP; rw [if_pos ⟨decide_eq_true hskip.1, hskip.2⟩]
    rw [e]
    refine ⟨(fun h => by cases h), fun ns h r hr => s2 r ?_⟩
    simp only [Option.some.injEq] at h
    subst h
    rw [List.append_nil] at hr
    exact Ev.step (fun k => by simp only [crosswayref03_six.j5]; rw [if_pos trivial, wrap_nat1 i (by omega)]) hr
  · rw [decide_eq_false hskip] at s2
    have e : partP (decide (0 ≤ x5)) p = (splitOn 58 p).mapM (numP 16 4) := by unfold partP; rw [if_neg (fun e => hskip ⟨by simpa using e.1, e.2⟩)]
    rw [e]
    have hsl := splitOn_length 58 p
    have hsplit := refSplit_ev p 58 58 rfl hp
    obtain ⟨q1, q2⟩ := six_l2 x5 y9 (i : Int) x7 (splitOn 58 p) (by omega) (splitOn 58 p).length 0 acc (by omega) (by omega)
    have s3 : ∀ r, Ev (fun k => crosswayref03_six.l2 k x5 x7 (intsOf acc) y9 (i : Int) ((splitOn 58 p).map ofL) 0) r → Ev (fun k => crosswayref03_six.l1 k x5 x7 (intsOf acc) x9 (i : Int)) r := fun r hr =>
      s2 r (Ev.step (fun k => by simp only [crosswayref03_six.j5]; rw [if_neg (by simp), if_pos (by omega), if_pos (by omega), hrd]) (Ev.bind hsplit hr))
    rw [List.drop_zero] at q1 q2
    refine ⟨fun h => s3 _ (q1 h), fun ns h r hr => s3 _ (q2 ns h r ?_)⟩
    rw [wrap_nat1 i (by omega)]
    exact hr

/-- what the reference's six answers -/
def refSixP (l : List UInt8) : List Int × Int × Bool :=
  if 0 ≤ Lib.index l [58, 58] then
    match rowP (Lib.cut l [58, 58]).1, rowP (Lib.cut l [58, 58]).2.1 with
    | some x, some y => (intsOf (x ++ y), (x.length : Int), true)
    | _, _ => ([], 0, false)
  else match (splitOn 58 l).mapM (numP 16 4) with
    | some ns => (intsOf ns, -1, true)
    | none => ([], 0, false)

open Q in
theorem six_end (x5 x9 : Int) (x7 : List ByteArray) (xs : List Int) (i : Nat) (h : x7.length = i) : Ev (fun k => crosswayref03_six.l1 k x5 x7 xs x9 (i : Int)) (xs, x9, true) :=
  Ev.step (f := fun _ => some (xs, x9, true)) (fun k => by simp only [crosswayref03_six.l1]; rw [if_neg (by omega)]) (Ev.now _)

theorem index_two_le (l : List UInt8) (g : Nat) (h : Lib.index l [58, 58] = (g : Int)) : g + 2 ≤ l.length := by
  have := Lib.index_room l [58, 58] (by omega)
  rw [h] at this
  simp at this
  omega

theorem refSix_ev (l : List UInt8) (hl : l.length < 4294967281) : Ev (fun k => Q.crosswayref03_six.f k (ofL l)) (refSixP l) := by
  have e1 := ofL_size l
  refine six_l0 l hl _ ?_ l.length 0 (by omega) (fun j hj => by omega)
  unfold refSixP
  by_cases h0 : 0 ≤ Lib.index l [58, 58]
  · obtain ⟨g, hg⟩ := Int.eq_ofNat_of_zero_le h0
    rw [if_pos h0]
    have hle := index_two_le l g hg
    have hcut : Lib.cut l [58, 58] = (l.take g, l.drop (g + 2), true) := by
      unfold Lib.cut
      rw [if_pos h0, hg, Int.toNat_natCast]
      rfl
    rw [hcut, hg]
    have hw : wrap64 ((g : Int) + 2) = ((g + 2 : Nat) : Int) := by unfold wrap64; omega
    have p0 : (ofL l).extract 0 g = ofL (l.take g) := by rw [ofL_extract]; simp
    have p1 : (ofL l).extract (g + 2) (ofL l).size = ofL (l.drop (g + 2)) := by rw [ofL_extract, e1, List.take_of_length_le (by rw [List.length_drop]; omega)]
    refine Ev.step (fun k => by simp only [Q.crosswayref03_six.j1]; rw [if_pos (by omega), if_pos (by omega), if_pos (by omega), hw, if_pos (by omega), if_pos (by omega), Int.toNat_natCast, Int.toNat_natCast, p0, p1]) ?_
    refine Ev.step (fun k => by simp only [Q.crosswayref03_six.j2]; rfl) ?_
    have hd : decide (0 ≤ (g : Int)) = true := by simp
    obtain ⟨a1, a2⟩ := six_part (g : Int) (-1) [ofL (l.take g), ofL (l.drop (g + 2))] 0 (l.take g) (by omega) (by simp) rfl (by rw [List.length_take]; omega) [] (by simp)
    rw [hd, partP_row] at a1 a2
    cases hx : rowP (l.take g) with
    | none => exact a1 hx
    | some x =>
      have hxl := rowP_length hx
      rw [List.length_take] at hxl
      refine a2 x hx _ ?_
      rw [List.nil_append, if_neg (by omega)]
      obtain ⟨b1, b2⟩ := six_part (g : Int) (-1) [ofL (l.take g), ofL (l.drop (g + 2))] 1 (l.drop (g + 2)) (by omega) (by simp) rfl (by rw [List.length_drop]; omega) x (by omega)
      rw [hd, partP_row] at b1 b2
      cases hy : rowP (l.drop (g + 2)) with
      | none => exact b1 hy
      | some y =>
        refine b2 y hy _ ?_
        rw [if_pos rfl]
        exact six_end _ _ _ _ 2 rfl
  · rw [if_neg h0]
    refine Ev.step (fun k => by simp only [Q.crosswayref03_six.j1]; rw [if_neg (by omega)]) ?_
    refine Ev.step (fun k => by simp only [Q.crosswayref03_six.j2]; rfl) ?_
    obtain ⟨a1, a2⟩ := six_part (Lib.index l [58, 58]) (-1) [ofL l] 0 l (by omega) (by simp) rfl hl [] (by simp)
    have e : partP (decide (0 ≤ Lib.index l [58, 58])) l = (splitOn 58 l).mapM (numP 16 4) := by unfold partP; rw [if_neg (fun e => h0 (by simpa using e.1))]
    rw [e] at a1 a2
    cases hx : (splitOn 58 l).mapM (numP 16 4) with
    | none => exact a1 hx
    | some x =>
      refine a2 x hx _ ?_
      rw [List.nil_append, if_neg (by omega)]
      exact six_end _ _ _ _ 1 rfl
/-! the reference's Parse -/

theorem u64_lt (n : Nat) (h : n < 18446744073709551616) : IntKind.u64.wrap (n : Int) = n := u64_nat h

open Q in
theorem parse_l2_step (xs : List Int) (hlen : (xs.length : Int) = 8) (j : Nat) (x y p q : Nat) (hj : j < 4) (hx : x < 281474976710656) (hy : y < 281474976710656) (hp : p < 65536) (hq : q < 65536) (h1 : rd xs (j : Int) = (p : Int)) (h2 : rd xs ((4 + j : Nat) : Int) = (q : Int)) (r : Bool × Int × Int × Int)
    (hr : Ev (fun k => crosswayref03_Parse.l2 k xs ((j + 1 : Nat) : Int) true ((x * 65536 + p : Nat) : Int) ((y * 65536 + q : Nat) : Int)) r) :
    Ev (fun k => crosswayref03_Parse.l2 k xs (j : Int) true (x : Int) (y : Int)) r := by
  have hw : wrap64 (4 + (j : Int)) = ((4 + j : Nat) : Int) := by unfold wrap64; omega
  have e : ∀ x p : Nat, x < 281474976710656 → p < 65536 → IntKind.u64.wrap (IntKind.u64.wrap ((x : Int) * 65536) + IntKind.u64.wrap (p : Int)) = ((x * 65536 + p : Nat) : Int) := fun x p hx hp => by
    rw [show (x : Int) * 65536 = ((x * 65536 : Nat) : Int) by omega, u64_lt _ (by omega), u64_lt _ (by omega), ← Int.natCast_add, u64_lt _ (by omega)]
  refine Ev.step (fun k => by simp only [crosswayref03_Parse.l2]; rw [hlen, hw, if_pos (by omega), if_pos (by omega), if_pos (by omega), if_pos (by omega), if_pos (by omega), wrap_nat1 j (by omega), h1, h2, e x p hx hp, e y q hy hq]) hr

open Q in
theorem parse_l2_end (xs : List Int) (x y : Int) : Ev (fun k => crosswayref03_Parse.l2 k xs 4 true x y) (true, x, y, 0) :=
  Ev.step (f := fun _ => some (true, x, y, 0)) (fun k => by simp only [crosswayref03_Parse.l2]; rw [if_neg (by omega)]) (Ev.now _)

theorem packL_nat (a b c d e f g i : Nat) (ha : a < 65536) (hb : b < 65536) (hc : c < 65536) (hd : d < 65536) (he : e < 65536) (hf : f < 65536) (hg : g < 65536) (hi : i < 65536) :
    packL (intsOf [a, b, c, d, e, f, g, i]) = (((((a * 65536 + b) * 65536 + c) * 65536 + d : Nat) : Int), ((((e * 65536 + f) * 65536 + g) * 65536 + i : Nat) : Int)) := by
  show (or4 _ _ _ _, or4 _ _ _ _) = _
  rw [or4_nat a b c d ha hb hc hd, or4_nat e f g i he hf hg hi]
  rfl

open Q in
/-- the eight groups are packed -/
theorem parse_l2 (l : List Nat) (h8 : l.length = 8) (hlt : ∀ n ∈ l, n < 65536) : Ev (fun k => crosswayref03_Parse.l2 k (intsOf l) 0 true 0 0) (true, (packL (intsOf l)).1, (packL (intsOf l)).2, 0) := by
  obtain ⟨a, b, c, d, e, f, g, i, rfl⟩ := list8 h8
  simp only [List.mem_cons, List.not_mem_nil, or_false, forall_eq_or_imp, forall_eq] at hlt
  obtain ⟨ha, hb, hc, hd, he, hf, hg, hi⟩ := hlt
  have hlen : ((intsOf [a, b, c, d, e, f, g, i]).length : Int) = 8 := rfl
  have r0 : rd (intsOf [a, b, c, d, e, f, g, i]) ((0 : Nat) : Int) = (a : Int) := rfl
  have r1 : rd (intsOf [a, b, c, d, e, f, g, i]) ((1 : Nat) : Int) = (b : Int) := rfl
  have r2 : rd (intsOf [a, b, c, d, e, f, g, i]) ((2 : Nat) : Int) = (c : Int) := rfl
  have r3 : rd (intsOf [a, b, c, d, e, f, g, i]) ((3 : Nat) : Int) = (d : Int) := rfl
  have r4 : rd (intsOf [a, b, c, d, e, f, g, i]) ((4 + 0 : Nat) : Int) = (e : Int) := rfl
  have r5 : rd (intsOf [a, b, c, d, e, f, g, i]) ((4 + 1 : Nat) : Int) = (f : Int) := rfl
  have r6 : rd (intsOf [a, b, c, d, e, f, g, i]) ((4 + 2 : Nat) : Int) = (g : Int) := rfl
  have r7 : rd (intsOf [a, b, c, d, e, f, g, i]) ((4 + 3 : Nat) : Int) = (i : Int) := rfl
  rw [packL_nat a b c d e f g i ha hb hc hd he hf hg hi]
  generalize intsOf [a, b, c, d, e, f, g, i] = xs at *
  have s4 := parse_l2_end xs ((((a * 65536 + b) * 65536 + c) * 65536 + d : Nat) : Int) ((((e * 65536 + f) * 65536 + g) * 65536 + i : Nat) : Int)
  have s3 := parse_l2_step xs hlen 3 ((a * 65536 + b) * 65536 + c) ((e * 65536 + f) * 65536 + g) d i (by omega) (by omega) (by omega) hd hi r3 r7 _ s4
  have s2 := parse_l2_step xs hlen 2 (a * 65536 + b) (e * 65536 + f) c g (by omega) (by omega) (by omega) hc hg r2 r6 _ s3
  have s1 := parse_l2_step xs hlen 1 a e b f (by omega) (by omega) (by omega) hb hf r1 r5 _ s2
  have s0 := parse_l2_step xs hlen 0 0 0 a e (by omega) (by omega) (by omega) ha he r0 r4 _ (by simp only [Nat.zero_mul, Nat.zero_add]; exact s1)
  exact s0

theorem intsOf_len (l : List Nat) : (intsOf l).length = l.length := by simp [intsOf]

theorem rd_intsOf (g : List Nat) (i : Nat) (h : i < g.length) : rd (intsOf g) (i : Int) = (g[i] : Int) := by
  rw [rd_at]
  simp [intsOf, List.getD, List.getElem?_eq_getElem h]

open Q in
/-- behind the gap, or without one: the rest of the groups is taken -/
theorem parse_rest (g : List Nat) (at_ : Int) (hg : g.length ≤ 8) (r : Bool × Int × Int × Int) : ∀ (d i : Nat) (acc : List Nat), i + d = g.length → acc.length < 100 → at_ < (i : Int) → acc.length + d < 100 →
    Ev (fun k => crosswayref03_Parse.j4 k (intsOf (acc ++ g.drop i))) r → Ev (fun k => crosswayref03_Parse.l1 k (intsOf g) at_ (intsOf acc) (i : Int)) r := by
  have hl := intsOf_len g
  intro d
  induction d with
  | zero =>
    intro i acc hd ha hat ha2 hr
    rw [List.drop_eq_nil_of_le (by omega), List.append_nil] at hr
    exact Ev.step (fun k => by simp only [crosswayref03_Parse.l1]; rw [if_neg (by omega), if_neg (by omega)]) hr
  | succ d ih =>
    intro i acc hd ha hat ha2 hr
    have hlt : i < g.length := by omega
    have hal := intsOf_len acc
    have e : intsOf acc ++ [(g[i] : Int)] = intsOf (acc ++ [g[i]]) := by simp [intsOf]
    rw [List.drop_eq_getElem_cons hlt] at hr
    refine Ev.step (fun k => by simp only [crosswayref03_Parse.l1]; rw [if_pos (by omega), if_neg (by omega), if_pos (by omega), if_pos (by omega), rd_intsOf g i hlt, wrap_nat1 i (by omega), e]) ?_
    refine ih (i + 1) (acc ++ [g[i]]) (by omega) (by simp; omega) (by omega) (by simp; omega) ?_
    rw [List.append_assoc]
    exact hr

open Q in
/-- ahead of the gap -/
theorem parse_fill (g : List Nat) (a : Nat) (hg : g.length ≤ 7) (ha : a ≤ g.length) (r : Bool × Int × Int × Int) : ∀ (d i : Nat), i + d = a →
    Ev (fun k => crosswayref03_Parse.j4 k (intsOf (g.take a ++ List.replicate (8 - g.length) 0 ++ g.drop a))) r → Ev (fun k => crosswayref03_Parse.l1 k (intsOf g) (a : Int) (intsOf (g.take i)) (i : Int)) r := by
  have hl := intsOf_len g
  have hw : wrap64 (8 - ((intsOf g).length : Int)) = ((8 - g.length : Nat) : Int) := by rw [hl]; unfold wrap64; omega
  intro d
  induction d with
  | zero =>
    intro i hd hr
    obtain rfl : i = a := by omega
    have hal := intsOf_len (g.take i)
    rw [List.length_take] at hal
    have e : intsOf (g.take i) ++ List.replicate (8 - g.length) 0 = intsOf (g.take i ++ List.replicate (8 - g.length) 0) := by simp [intsOf]
    by_cases h : i < g.length
    · have e2 : intsOf (g.take i ++ List.replicate (8 - g.length) 0) ++ [(g[i] : Int)] = intsOf (g.take i ++ List.replicate (8 - g.length) 0 ++ [g[i]]) := by unfold intsOf; rw [List.map_append (l₂ := [g[i]])]; rfl
      have hbl2 : (g.take i ++ List.replicate (8 - g.length) 0 ++ [g[i]]).length = i + (8 - g.length) + 1 := by rw [List.length_append, List.length_append, List.length_take, List.length_replicate, List.length_singleton]; omega
      have hbl : (intsOf (g.take i ++ List.replicate (8 - g.length) 0)).length < 17592186044416 := by rw [intsOf_len, List.length_append, List.length_take, List.length_replicate]; omega
      refine Ev.step (fun k => by simp only [crosswayref03_Parse.l1]; rw [hw, if_pos (by omega), if_pos trivial, if_pos (by omega), Int.toNat_natCast, if_pos (by omega), e]) (Ev.congr (fun k => by rw [Option.bind_some, if_pos (by omega), if_pos hbl, rd_intsOf g i h, wrap_nat1 i (by omega), e2]) ?_)
      refine parse_rest g (i : Int) (by omega) r (g.length - (i + 1)) (i + 1) (g.take i ++ List.replicate (8 - g.length) 0 ++ [g[i]]) (by omega) (by rw [hbl2]; omega) (by omega) (by rw [hbl2]; omega) ?_
      rw [List.drop_eq_getElem_cons h] at hr
      simpa using hr
    · obtain rfl : i = g.length := by omega
      rw [List.drop_length, List.append_nil] at hr
      refine Ev.step (fun k => by simp only [crosswayref03_Parse.l1]; rw [hw, if_neg (by omega), if_pos (by omega), if_pos (by omega), Int.toNat_natCast, if_pos (by omega), e]) hr
  | succ d ih =>
    intro i hd hr
    have hlt : i < g.length := by omega
    have hal := intsOf_len (g.take i)
    rw [List.length_take] at hal
    have e : intsOf (g.take i) ++ [(g[i] : Int)] = intsOf (g.take (i + 1)) := by rw [List.take_succ_eq_append_getElem hlt]; unfold intsOf; rw [List.map_append]; rfl
    refine Ev.step (fun k => by simp only [crosswayref03_Parse.l1]; rw [if_pos (by omega), if_neg (by omega), if_pos (by omega), if_pos (by omega), rd_intsOf g i hlt, wrap_nat1 i (by omega), e]) ?_
    exact ih (i + 1) (by omega) hr

theorem mapM_lt {ps : List (List UInt8)} {ns : List Nat} (h : ps.mapM (numP 16 4) = some ns) : ∀ n ∈ ns, n < 65536 := fun n hn => by
  obtain ⟨x, _, e⟩ := (mapM_all h).2 n hn
  exact numP_lt e (by omega)

theorem rowP_lt {l : List UInt8} {ns : List Nat} (h : rowP l = some ns) : ∀ n ∈ ns, n < 65536 := by
  unfold rowP at h
  split at h
  · obtain rfl := Option.some.inj h
    intro n hn; cases hn
  · exact mapM_lt h

/-- what a text that is no four numbers is read as -/
def sixRead (l : List UInt8) : Option (Bool × Int × Int) := (sixP l).map fun g => (true, (packL (intsOf g)).1, (packL (intsOf g)).2)

open Q in
theorem parse_no (xs : List Int) (at_ : Int) : Ev (fun k => crosswayref03_Parse.j2 k xs at_ true) (parseRes none) :=
  Ev.step (f := fun _ => some (parseRes none)) (fun k => by simp only [crosswayref03_Parse.j2]; rw [if_pos trivial]; rfl) (Ev.now _)

open Q in
theorem parse_pack (g : List Nat) (h8 : g.length = 8) (hlt : ∀ n ∈ g, n < 65536) : Ev (fun k => crosswayref03_Parse.j4 k (intsOf g)) (parseRes (some (true, (packL (intsOf g)).1, (packL (intsOf g)).2))) :=
  Ev.step (fun k => by simp only [crosswayref03_Parse.j4]) (parse_l2 g h8 hlt)

open Q in
theorem parse_six_ev (l : List UInt8) (hl : l.length < 4294967281) (a : Bool) (b c : Int) : Ev (fun k => crosswayref03_Parse.j1 k (ofL l) false a b c) (parseRes (sixRead l)) := by
  have hs := refSix_ev l hl
  refine Ev.step (fun k => by simp only [crosswayref03_Parse.j1]; rw [if_neg (by simp)]) (Ev.bind hs ?_)
  unfold refSixP sixRead sixP
  by_cases h0 : 0 ≤ Lib.index l [58, 58]
  · rw [if_pos h0]
    have hc : (Lib.cut l [58, 58]).2.2 = true := by unfold Lib.cut; rw [if_pos h0]
    rw [hc]
    cases hx : rowP (Lib.cut l [58, 58]).1 with
    | none => exact Ev.congr (fun k => by simp only []; rw [if_neg (by simp)]) (parse_no _ _)
    | some x =>
      cases hy : rowP (Lib.cut l [58, 58]).2.1 with
      | none => exact Ev.congr (fun k => by simp only []; rw [if_neg (by simp)]) (parse_no _ _)
      | some y =>
        have hlen : (intsOf (x ++ y)).length = x.length + y.length := by rw [intsOf_len, List.length_append]
        simp only []
        by_cases h7 : x.length + y.length ≤ 7
        · rw [if_pos trivial, if_pos h7]
          refine Ev.congr (fun k => by rw [if_pos trivial, if_neg (by omega), if_pos (by omega), show decide (((intsOf (x ++ y)).length : Int) > 7) = false by simp; omega]) ?_
          refine Ev.step (fun k => by simp only [crosswayref03_Parse.j2]; rw [if_neg (by simp)]) ?_
          have hl7 : (x ++ y).length ≤ 7 := by rw [List.length_append]; exact h7
          refine parse_fill (x ++ y) x.length hl7 (by rw [List.length_append]; omega) _ x.length 0 (by omega) ?_
          rw [List.take_left, List.drop_left, List.length_append, show 8 - (x.length + y.length) = 8 - x.length - y.length by omega]
          refine parse_pack _ (by simp; omega) (fun n hn => ?_)
          simp only [List.mem_append, List.mem_replicate] at hn
          rcases hn with (hn | hn) | hn
          · exact rowP_lt hx n hn
          · omega
          · exact rowP_lt hy n hn
        · rw [if_pos trivial, if_neg h7]
          exact Ev.congr (fun k => by rw [if_pos trivial, if_neg (by omega), if_pos (by omega), show decide (((intsOf (x ++ y)).length : Int) > 7) = true by simp; omega]) (parse_no _ _)
  · rw [if_neg h0]
    have hc : Lib.cut l [58, 58] = (l, [], false) := by unfold Lib.cut; rw [if_neg h0]
    rw [hc]
    have hnil : rowP [] = some [] := rfl
    by_cases hl0 : l = []
    · subst hl0
      exact Ev.congr (fun k => by simp only [splitOn, List.mapM_cons, numP]; rfl) (parse_no [] 0)
    · have hrow : rowP l = (splitOn 58 l).mapM (numP 16 4) := by unfold rowP; rw [if_neg hl0]
      simp only [hnil, hrow]
      cases hx : (splitOn 58 l).mapM (numP 16 4) with
      | none => exact Ev.congr (fun k => by simp only []; rw [if_neg (by simp)]) (parse_no _ _)
      | some x =>
        have hlen := intsOf_len x
        simp only [List.length_nil, Nat.add_zero, List.append_nil]
        rw [if_neg (by simp)]
        by_cases h8 : x.length = 8
        · rw [if_pos h8]
          refine Ev.congr (fun k => by rw [if_pos trivial, if_pos (by omega), if_pos (by omega), if_neg (by omega)]) ?_
          refine Ev.step (fun k => by simp only [crosswayref03_Parse.j2]; rw [if_neg (by simp)]) ?_
          refine parse_rest x (-1) (by omega) _ x.length 0 [] (by omega) (by simp) (by omega) (by simp; omega) ?_
          rw [List.nil_append, List.drop_zero]
          exact parse_pack x h8 (mapM_lt hx)
        · rw [if_neg h8]
          exact Ev.congr (fun k => by rw [if_pos trivial, if_pos (by omega), if_neg (by omega)]) (parse_no _ _)

/-- four numbers folded -/
def fold4 (v : Int) : List Nat → Int
  | [] => v
  | n :: ns => fold4 (IntKind.u64.wrap ((IntKind.u64.wrap (v * 256)) + (IntKind.u64.wrap (mx (n : Int) 0)))) ns

theorem fold4_nil (v : Int) : fold4 v [] = v := rfl
theorem fold4_cons (v : Int) (n : Nat) (ns : List Nat) : fold4 v (n :: ns) = fold4 (IntKind.u64.wrap ((IntKind.u64.wrap (v * 256)) + (IntKind.u64.wrap (mx (n : Int) 0)))) ns := rfl

open Q in
theorem parse_dots (l : List UInt8) (hl : l.length < 4294967281) (ps : List (List UInt8)) (hps : ps.length = 4) : ∀ (d i : Nat) (v : Int), i + d = ps.length →
    Ev (fun k => crosswayref03_Parse.l0 k (ofL l) (ps.map ofL) true (i : Int) false 0 v) (match (ps.drop i).mapM octP with | some ns => (false, 0, fold4 v ns, 0) | none => parseRes (sixRead l)) := by
  have hlen : ((ps.map ofL).length : Int) = ps.length := by rw [List.length_map]
  intro d
  induction d with
  | zero =>
    intro i v hd
    rw [List.drop_eq_nil_of_le (by omega)]
    refine Ev.step (fun k => by simp only [crosswayref03_Parse.l0]; rw [hlen, if_neg (by omega)]) ?_
    exact Ev.step (f := fun _ => some (false, 0, v, 0)) (fun k => by simp only [crosswayref03_Parse.j1]; rw [if_pos trivial]) (Ev.now _)
  | succ d ih =>
    intro i v hd
    have hlt : i < ps.length := by omega
    have hdec := refDecimal_ev ps[i]
    rw [List.drop_eq_getElem_cons hlt, List.mapM_cons]
    refine Ev.step (fun k => by simp only [crosswayref03_Parse.l0]; rw [hlen, if_pos (by omega), if_pos trivial, if_pos (by omega), rdOf_ofL ps i hlt, wrap_nat1 i (by omega)]) (Ev.bind hdec ?_)
    cases hn : octP ps[i] with
    | none =>
      simp only [Option.bind_eq_bind, Option.bind_none]
      rw [show decide (orNone none ≥ 0) = false by decide]
      by_cases h : i + 1 < ps.length
      · exact Ev.step (fun k => by simp only [crosswayref03_Parse.l0]; rw [hlen, if_pos (by omega), if_neg (by simp)]) (parse_six_ev l hl _ _ _)
      · exact Ev.step (fun k => by simp only [crosswayref03_Parse.l0]; rw [hlen, if_neg (by omega)]) (parse_six_ev l hl _ _ _)
    | some n =>
      rw [show decide (orNone (some n) ≥ 0) = true by simp [orNone]]
      have := ih (i + 1) (IntKind.u64.wrap ((IntKind.u64.wrap (v * 256)) + (IntKind.u64.wrap (mx (orNone (some n)) 0)))) (by omega)
      cases hm : (ps.drop (i + 1)).mapM octP with
      | none => rw [hm] at this; exact this
      | some ns => rw [hm] at this; exact this

open Q in
theorem refParse_ev (l : List UInt8) (hl : l.length < 4294967281) : Ev (fun k => crosswayref03_Parse.f k (ofL l)) (parseRes (parseP l)) := by
  refine Ev.bind (refSplit_ev l 46 46 rfl hl) ?_
  have hlen : (((splitOn 46 l).map ofL).length : Int) = (splitOn 46 l).length := by rw [List.length_map]
  by_cases h4 : (splitOn 46 l).length = 4
  · have hd := parse_dots l hl (splitOn 46 l) h4 4 0 0 (by omega)
    rw [List.drop_zero] at hd
    refine Ev.congr (fun k => by rw [hlen, h4]) ?_
    unfold parseP fourP
    cases hm : (splitOn 46 l).mapM octP with
    | none => rw [hm] at hd; exact hd
    | some ns =>
      rw [hm] at hd
      obtain ⟨hnl, hall⟩ := mapM_all hm
      rw [h4] at hnl
      match ns, hnl with
      | [a, b, c, d], _ =>
        have le : ∀ n ∈ [a, b, c, d], n ≤ 255 := fun n hn => by
          obtain ⟨x, _, e⟩ := hall n hn
          exact octP_le e
        have ha := le a (by simp); have hb := le b (by simp); have hc := le c (by simp); have hd' := le d (by simp)
        have step : ∀ x n : Nat, x < 4294967296 → n ≤ 255 → IntKind.u64.wrap ((IntKind.u64.wrap ((x : Int) * 256)) + (IntKind.u64.wrap (mx (n : Int) 0))) = ((x * 256 + n : Nat) : Int) := fun x n hx hn => by
          have e : mx (n : Int) 0 = n := by unfold mx; split <;> omega
          rw [e, show (x : Int) * 256 = ((x * 256 : Nat) : Int) by omega, u64_lt _ (by omega), u64_lt _ (by omega), ← Int.natCast_add, u64_lt _ (by omega)]
        have e : fold4 ((0 : Nat) : Int) [a, b, c, d] = ((((a * 256 + b) * 256 + c) * 256 + d : Nat) : Int) := by
          rw [fold4_cons, step 0 a (by omega) ha, fold4_cons, step _ b (by omega) hb, fold4_cons, step _ c (by omega) hc, fold4_cons, step _ d (by omega) hd', fold4_nil, Nat.zero_mul, Nat.zero_add]
        have e2 : (match some [a, b, c, d] with | some ns => (false, (0 : Int), fold4 0 ns, (0 : Int)) | none => parseRes (sixRead l)) = (false, 0, fold4 ((0 : Nat) : Int) [a, b, c, d], 0) := rfl
        rw [e2, e] at hd
        exact hd
  · have e : fourP l = none := by
      unfold fourP
      split
      · rename_i a b c d h
        have := (mapM_all h).1
        simp at this
        omega
      · rfl
    unfold parseP
    rw [e]
    refine Ev.congr (fun k => by rw [hlen, show ((((splitOn 46 l).length : Nat) : Int) == 4) = false by simp; omega]) ?_
    by_cases h0 : 0 < (splitOn 46 l).length
    · exact Ev.step (fun k => by simp only [crosswayref03_Parse.l0]; rw [hlen, if_pos (by omega), if_neg (by simp)]) (parse_six_ev l hl _ _ _)
    · exact Ev.step (fun k => by simp only [crosswayref03_Parse.l0]; rw [hlen, if_neg (by omega)]) (parse_six_ev l hl _ _ _)
end Go.Proofs.YtaekcldkfkiekaaDoor

namespace Go.Proofs.YtaekcldkfkiekaaDoor
open Go.ChangeShapes Go.WideShapes Go.ChangeAt Go.RowKit
open Go.ChangeMaps (open_string shut_string)
open Go.Proofs.YtaekcldkfkiekaaDoorW.PrintWords Go.Proofs.YtaekcldkfkiekaaDoorW.PrintMore

theorem parses_f (s : ByteArray) (h : s.size < 4294967281) : ∃ k, Q.crosswaylaw03_AddrParses.f k s = some true := by
  have e : s = ofL s.data.toList := by unfold ofL; simp
  have hl : s.data.toList.length = s.size := Array.length_toList
  have h1 : Ev (fun k => Q.addr_Parse.f k s) (parseRes (parseP s.data.toList)) := ⟨s.size + 2, fun k hk => parse_f s h k (by omega)⟩
  have h2 : Ev (fun k => Q.crosswayref03_Parse.f k s) (parseRes (parseP s.data.toList)) := by
    have := refParse_ev s.data.toList (by omega)
    rw [← e] at this
    exact this
  refine Ev.rounds (g := fun k => Q.crosswaylaw03_AddrParses.f k s) (Ev.congr (fun k => by unfold Q.crosswaylaw03_AddrParses.f crosswaylaw03_awake.f; rfl) (Ev.bind h1 (Ev.bind h2 ?_)))
  exact Ev.congr (f := fun _ => some true) (fun k => by simp) (Ev.now _)

theorem parses_walk (s : ByteArray) (h : s.size < 4294967281) (w : World) (hG : GV w) : Calls Tryd.prog 3 #[.string s] w fun e w' => e = .returned (.bool true) ∧ Below w.heap.size w w' :=
  by
  obtain ⟨k, hk⟩ := parses_f s h
  exact Q.crosswaylaw03_AddrParses.calls k s true w hk hG

theorem parses_reads (os : Os) {H : Type} (enc : TypeId × Value → H) : ∃ places, DataW.whole enc Tryd.prog ((World.laidAll Tryd.prog os laidL).forCall (fun _ _ => 0) ⟨#[], #[.string ⟨#[]⟩], []⟩).memory Tryd.f3.params.toList Rows.addrParsesSpec.vars false #[Value.string ⟨#[]⟩].toList 8 = some ([.lit (.string [])], [], places) :=
  ⟨[], by kernel_rfl⟩

set_option maxRecDepth 100000 in
theorem parses_lifted (os : Os) (started : os.Started) (H : Type) (enc : TypeId × Value → H) (F : Stop.Interp) :
    ReturnsInHanded {} Tryd.checked os 3 .any ((Rows.OpenSpec.upto Rows.addrParsesSpec).preRow enc Tryd.prog Tryd.f3 Rows.addrParsesUptoRow.domain false laidL) (((Rows.OpenSpec.upto Rows.addrParsesSpec).at F).post enc Tryd.prog Tryd.f3 false true false false) := by
  obtain ⟨places, hx⟩ := parses_reads os enc
  refine returnsInHanded_of_row (C := Tryd.checked) (s := Rows.OpenSpec.upto Rows.addrParsesSpec) own started (by kernel_rfl) Tryd.func3
    ⟨World.laidAll Tryd.prog os laidL, fun _ _ => 0, ⟨#[], #[.string ⟨#[]⟩], []⟩, World.laidAll_os _ _ _, World.shaped_of_ZipB (by kernel_rfl) (by kernel_rfl), rfl, (Input.okWide_of_okWideB (by kernel_rfl)).2,
      OpenSpec.preRow_of_cond 8 hx (by kernel_rfl) (fun k hk => by cases hk; kernel_rfl) (by kernel_rfl) (by rw [MakeChecks.laidMetH_plain _ _ _ (by kernel_rfl)]; exact laidMet_laidAll _ (by kernel_rfl) (by kernel_rfl)), by simp [Assume.holds]⟩ ?_
  intro W base args ds gs before hval0 hW _ hcond _ hL hsh _
  have hval : ∀ (j : Nat) t v, Tryd.f3.params[j]? = some t → args[j]? = some v → Value.okWide Tryd.prog W .any base t v := hval0
  have hG := gv_of_laid hL hsh
  have hW' := hW
  obtain ⟨p, q, hA0, hV, rfl, _, _⟩ := hW
  have hA : DataW.TrodAll enc Tryd.prog W 0 (fun _ => true) true Tryd.f3.params.toList args.toList ds p := hA0
  rw [Tryd.params3] at hA hval
  obtain ⟨v0, d0, rfl, rfl, h0⟩ := trodAll_one hA
  obtain ⟨rfl, rfl⟩ := trodVars_none hV
  obtain ⟨s, rfl, rfl, rfl, y0⟩ := open_string Tryd.underlying9 (hval 0 9 v0 rfl rfl) h0
  have hb := of_decide_eq_true (hcond _ rfl)
  simp only [List.append_nil, Rows.uptoBulkAll, Rows.uptoBulk, Array.length_toList] at hb
  have hsz : s.size < 4294967281 := by
    have e : s.data.size = s.size := rfl
    rw [e] at hb
    omega
  simp only [List.append_nil] at hW'
  refine (parses_walk s hsz W hG).mono fun e W' ⟨he, bel⟩ => ?_
  subst he
  exact ⟨_, rfl, _, _, _, [], [], [], hW', trodAll_mk1 (shut_bool Tryd.underlying4 _), trodAll_mk1 (shut_string Tryd.underlying9 y0), rfl, bel.frame _, fun h => by cases h⟩

theorem parses_row : Rows.AddrParsesUptoSaid :=
  OpenClaim.holds_of_cond 3 Tryd.f3 rfl rfl rfl rfl rfl rfl rfl ⟨rfl, rfl, rfl, rfl, rfl⟩ rfl rfl rfl rfl rfl (by kernel_rfl) Tryd.func3 (by kernel_rfl)
    (of_decide_eq_true (by kernel_rfl)) (by unfold Func.isWrapper; first | (rw [if_pos (by decide +kernel)]; kernel_rfl) | (rw [if_neg (by decide +kernel)]; exact ⟨rfl, rfl⟩))
    (fun os started H enc _ F => by rw [OpenClaim.pre_eq_preRow]; exact parses_lifted os started H enc F)

theorem parses_plain (f : FuncId) (fn : Func) (hf : Tryd.pinned.checked.prog.funcNamed "crossway/crosswaylaw03.AddrParses" = some f) (hfn : Tryd.pinned.checked.prog.funcs[f]? = some fn) :
    true = Tryd.pinned.checked.prog.looks [] ∧ ∀ (j : Nat) t, fn.params[j]? = some t → Tryd.pinned.checked.prog.wantsStandIn t = false := by
  obtain rfl : f = 3 := Option.some.inj ((show Tryd.prog.funcNamed "crossway/crosswaylaw03.AddrParses" = some 3 by kernel_rfl).symm.trans hf) |>.symm
  obtain rfl : fn = Tryd.f3 := (Option.some.inj (Tryd.func3.symm.trans hfn)).symm
  refine ⟨by kernel_rfl, fun j t ht => ?_⟩
  rw [Tryd.params3] at ht
  obtain rfl : t = 9 := by simpa using Array.mem_of_getElem? ht
  exact (show Tryd.prog.wantsStandIn 9 = false by kernel_rfl)

theorem addrParses_holds : Rows.AddrParsesUptoCardSaid :=
  Claim7.holds_tied_plain_at .later [] _ _ _ _ parses_row (fun _ h => by cases h) (by kernel_rfl) (fun _ h => by cases h) addrParsesUpto_row_tie rfl ⟨rfl, rfl⟩ (by kernel_rfl) rfl parses_plain (by kernel_rfl)
#print axioms addrParses_holds
end Go.Proofs.YtaekcldkfkiekaaDoor
