/- What a field is, word by word; the document's words, fields, numbers, names (law3). -/
import Derived.Test.YtfoafigpimhppaaDoorNumPlain
import Derived.Test.YtfoafigpimhppaaDoorPNmx4
import Derived.Lib.ValidLaws
namespace Go.Proofs.YtfoafigpimhppaaDoor.Pure
open Go.RowKit Go.Proofs.YtfoafigpimhppaaDoor.PNm Go.Proofs.YtfoafigpimhppaaDoorW.PrintWords Go.Proofs.YtfoafigpimhppaaDoorW.PrintLast Go.Proofs.YtfoafigpimhppaaDoorW.PrintMore Go.Lib
set_option linter.unusedVariables false
set_option linter.unusedSimpArgs false

theorem lift {α : Type} {g : Nat → Option α} (h : ∀ k, LeO (g k) (g (k + 1))) {a : Nat} {r : α} (ha : g a = some r) (b : Nat) (hab : a ≤ b) : g b = some r := by
  obtain ⟨d, rfl⟩ := Nat.exists_eq_add_of_le hab
  clear hab
  induction d with
  | zero => exact ha
  | succ d ih => exact h _ r ih
theorem bt_L (s : ByteArray) (p : Nat) (h : p < s.size) : bt s (p : Int) = (((bL s).getD p 0).toNat : Int) := by
  unfold bt
  rw [dif_pos (by simpa using h)]
  rw [List.getD_eq_getElem?_getD, List.getElem?_eq_getElem (by rw [bL_len]; exact h)]
  rfl
theorem rd_map (ws : List (List UInt8)) (i : Nat) : rdOf ByteArray.empty (ws.map Bs) (i : Int) = Bs (ws.getD i []) := by
  unfold rdOf
  simp only [Int.toNat_natCast, List.getD_eq_getElem?_getD, List.getElem?_map]
  cases ws[i]? <;> rfl
theorem drop_atw (l : List (List UInt8)) (p : Nat) (h : p < l.length) : l.drop p = l.getD p [] :: l.drop (p + 1) := by
  rw [List.drop_eq_getElem_cons h, List.getD_eq_getElem?_getD, List.getElem?_eq_getElem h]
  rfl
theorem w64_nat (i : Nat) (h : i < 1000000) : wrap64 ((i : Int) + 1) = ((i + 1 : Nat) : Int) := by rw [w64_of _ (by omega) (by omega)]; omega
def fieldS : List (List UInt8) → List UInt8 → List UInt8 × Bool
  | [], _ => ([], false)
  | w :: t, k => if Lib.hasPrefix w k then (w.drop k.length, true) else fieldS t k
def fieldB (x : List UInt8 × Bool) : ByteArray × Bool := (Bs x.1, x.2)
theorem field_l0 (key : ByteArray) (hk : key.size ≤ 1000000) (ws : List (List UInt8)) (hw : ws.length < 1000000) : ∀ d i n, i + d = ws.length →
    name_Field.l0 (n + d + 1) key (ws.map Bs) ((ws.map Bs).length : Int) i = some (fieldB (fieldS (ws.drop i) (bL key ++ [61]))) := by
  intro d
  induction d with
  | zero =>
    intro i n h0
    rw [name_Field.l0, if_neg (by simp; omega), List.drop_eq_nil_of_le (by omega)]
    rfl
  | succ d ih =>
    intro i n h0
    rw [show n + (d + 1) + 1 = (n + d + 1) + 1 by omega, name_Field.l0, if_pos (by simp; omega), if_pos (by omega), if_pos (by simp; omega), if_pos (by omega), rd_map]
    have hd := drop_atw ws i (by omega)
    unfold strings_CutPrefix.f
    simp only [Option.bind_some]
    rw [show (Bs (ws.getD i [])).data.toList = ws.getD i [] from bL_Bs _, show (key ++ (⟨#[61]⟩ : ByteArray)).data.toList = bL key ++ [61] from bL_append _ _]
    rw [hd, fieldS, w64_nat i (by omega)]
    by_cases hp : Lib.hasPrefix (ws.getD i []) (bL key ++ [61]) = true
    · rw [if_pos hp, if_pos hp]
      unfold Lib.trimPrefix
      rw [if_pos hp]
      rfl
    · rw [if_neg hp, if_neg hp]
      exact ih (i + 1) n (by omega)
theorem rfield_l0 (k : ByteArray) (ws : List (List UInt8)) (hw : ws.length < 1000000) : ∀ d i n, i + d = ws.length →
    tocsinref8_Field.l0 (n + d + 1) (ws.map Bs) k i = some (fieldB (fieldS (ws.drop i) (bL k))) := by
  intro d
  induction d with
  | zero =>
    intro i n h0
    rw [tocsinref8_Field.l0, if_neg (by simp; omega), List.drop_eq_nil_of_le (by omega)]
    rfl
  | succ d ih =>
    intro i n h0
    rw [show n + (d + 1) + 1 = (n + d + 1) + 1 by omega, tocsinref8_Field.l0, if_pos (by simp; omega), if_pos (by omega), rd_map, w64_nat i (by omega)]
    have hd := drop_atw ws i (by omega)
    rw [hd, fieldS]
    generalize ws.getD i [] = W
    have hraw := Lib.hasPrefix_raw (Bs W) k
    rw [show (Bs W).data.toList = W from bL_Bs W, show k.data.toList = bL k from rfl] at hraw
    simp only [Int.toNat_natCast]
    by_cases hp : Lib.hasPrefix W (bL k) = true
    · rw [hp, Bool.and_eq_true, decide_eq_true_eq, beq_iff_eq] at hraw
      rw [if_pos (by have := hraw.1; omega), if_pos (by omega), if_pos (by have := hraw.1; omega), if_pos hraw.2, if_pos hp]
      congr 1
      unfold fieldB
      rw [extract_Bs, bL_Bs, bL_len]
      congr 2
      rw [List.take_of_length_le]
      rw [List.length_drop, size_Bs]
      exact Nat.le_refl _
    · rw [Bool.eq_false_iff.2 hp, Bool.and_eq_false_iff] at hraw
      rw [if_neg hp]
      by_cases hs : ((Bs W).size : Int) ≥ (k.size : Int)
      · rw [if_pos hs, if_pos (by omega), if_pos (by omega)]
        rcases hraw with h | h
        · rw [decide_eq_false_iff_not] at h; omega
        · rw [if_neg (by simpa using h)]
          exact ih (i + 1) n (by omega)
      · rw [if_neg hs]
        exact ih (i + 1) n (by omega)
theorem words_l0 (s : ByteArray) (hs : s.size ≤ 300) : ∀ d p n acc (cur : List UInt8), p + d = s.size → cur.length ≤ p → acc.length ≤ p →
    tocsinref8_Words.l0 (n + 2 * d + 1) s acc (Bs cur) p = some (acc ++ (wordsL ((bL s).drop p) cur).map Bs) := by
  intro d
  induction d with
  | zero =>
    intro p n acc cur h0 h1 h2
    rw [tocsinref8_Words.l0, if_neg (by omega), toL, bL_Bs, List.drop_eq_nil_of_le (by rw [bL_len]; omega), wordsL]
    split
    · simp
    · rw [if_pos (by omega)]; simp
  | succ d ih =>
    intro p n acc cur h0 h1 h2
    have hb := bt_L s p (by omega)
    have hd := drop_at (bL s) p (by rw [bL_len]; omega)
    rw [show n + 2 * (d + 1) + 1 = (n + 2 * d + 1 + 1) + 1 by omega, tocsinref8_Words.l0, if_pos (by omega), if_pos (by omega), hd, wordsL, hb]
    have hex : s.extract ((p : Int)).toNat (((p + 1 : Nat) : Int)).toNat = Bs [(bL s).getD p 0] := by
      rw [extract_Bs]
      simp only [Int.toNat_natCast, Nat.add_sub_cancel_left, hd]
      simp
    generalize (bL s).getD p 0 = b at hex
    have hu := u8_blank b
    have hj : ∀ x21 : Bool, x21 = blankB b → tocsinref8_Words.j1 (n + 2 * d + 1 + 1) s acc (Bs cur) p x21 = some (acc ++ (if blankB b = true then (if cur = [] then wordsL ((bL s).drop (p + 1)) [] else cur :: wordsL ((bL s).drop (p + 1)) []) else wordsL ((bL s).drop (p + 1)) (cur ++ [b])).map Bs) := by
      rintro x21 rfl
      rw [tocsinref8_Words.j1, w64_nat p (by omega), toL, bL_Bs]
      cases hbl : blankB b with
      | true =>
        rw [if_pos rfl, if_pos rfl]
        by_cases hc : cur = []
        · rw [if_pos hc, if_pos hc]
          have := ih (p + 1) n acc [] (by omega) (by simp) (by omega)
          exact this
        · rw [if_neg hc, if_neg hc, if_pos (by omega)]
          have := ih (p + 1) n (acc ++ [Bs cur]) [] (by omega) (by simp) (by simp; omega)
          rw [show (⟨#[]⟩ : ByteArray) = Bs [] from rfl, this]
          simp
      | false =>
        simp only [Bool.false_eq_true, if_false]
        rw [if_pos (by omega), if_pos (by omega), if_pos (by omega), hex, if_pos (by rw [size_Bs, size_Bs]; simp; omega)]
        rw [show Bs cur ++ Bs [b] = Bs (cur ++ [b]) from bL_inj (by simp only [bL_append, bL_Bs])]
        exact ih (p + 1) n acc (cur ++ [b]) (by omega) (by simp; omega) (by omega)
    by_cases c1 : b.toNat = 32
    · rw [if_pos (by omega)]
      exact hj true (hu.2 (.inl c1)).symm
    · rw [if_neg (by omega)]
      refine hj _ ?_
      by_cases c2 : b.toNat = 9
      · rw [hu.2 (.inr c2), beq_iff_eq]; omega
      · rw [Bool.eq_false_iff.2 fun h => (hu.1 h).elim c1 c2, beq_eq_false_iff_ne]; omega
theorem rwords_f (s : ByteArray) (hs : s.size ≤ 300) (K : Nat) (hK : 602 ≤ K) : tocsinref8_Words.f K s = some ((wordsL (bL s) []).map Bs) := by
  refine lift (tocsinref8_Words.mono s) (a := 2 * s.size + 1) ?_ K (by omega)
  have := words_l0 s hs s.size 0 0 [] [] (by omega) (by simp) (by simp)
  simp only [Nat.zero_add, List.drop_zero, List.nil_append] at this
  exact this
theorem wordsL_count : ∀ l cur, (wordsL l cur).length ≤ l.length + 1
  | [], cur => by rw [wordsL]; split <;> simp
  | b :: t, cur => by
    rw [wordsL]
    split
    · split
      · have := wordsL_count t []; simp; omega
      · have := wordsL_count t []; simp; omega
    · have := wordsL_count t (cur ++ [b]); simp; omega
theorem field_f (s key : ByteArray) (hs : s.size ≤ 400) (hk : key.size ≤ 50) (K : Nat) (hK : 402 ≤ K) : name_Field.f K s key = some (fieldB (fieldS (wordsL (bL s) []) (bL key ++ [61]))) := by
  have hc := wordsL_count (bL s) []
  rw [bL_len] at hc
  refine lift (name_Field.mono s key) (a := (wordsL (bL s) []).length + 1) ?_ K (by omega)
  unfold name_Field.f name_Words.f
  rw [if_pos (by unfold lim; omega), wordsB_eq]
  simp only [Option.bind_some]
  have := field_l0 key (by omega) (wordsL (bL s) []) (by omega) (wordsL (bL s) []).length 0 0 (by omega)
  simp only [Nat.zero_add, List.drop_zero] at this
  exact this
theorem rfield_f (s key : ByteArray) (hs : s.size ≤ 300) (hk : key.size ≤ 50) (K : Nat) (hK : 602 ≤ K) : tocsinref8_Field.f K s key = some (fieldB (fieldS (wordsL (bL s) []) (bL key ++ [61]))) := by
  have hc := wordsL_count (bL s) []
  rw [bL_len] at hc
  unfold tocsinref8_Field.f
  rw [rwords_f s hs K hK]
  simp only [Option.bind_some]
  rw [if_pos (by omega)]
  refine lift (fun k => tocsinref8_Field.mono_l k _ _ _) (a := (wordsL (bL s) []).length + 1) ?_ K (by omega)
  have := rfield_l0 (key ++ (⟨#[61]⟩ : ByteArray)) (wordsL (bL s) []) (by omega) (wordsL (bL s) []).length 0 0 (by omega)
  simp only [Nat.zero_add, List.drop_zero] at this
  rw [show bL (key ++ (⟨#[61]⟩ : ByteArray)) = bL key ++ [61] from bL_append _ _] at this
  exact this
theorem texts_l0 (l : List ByteArray) (hl : l.length < 1000000) : ∀ d i n, i + d = l.length → tocsinlaw3_texts.l0 (n + d + 1) l l i = some true := by
  intro d
  induction d with
  | zero => intro i n h0; rw [tocsinlaw3_texts.l0, if_neg (by omega)]
  | succ d ih =>
    intro i n h0
    rw [show n + (d + 1) + 1 = (n + d + 1) + 1 by omega, tocsinlaw3_texts.l0, if_pos (by omega), if_pos (by omega), if_pos (by omega), if_pos rfl, w64_nat i (by omega)]
    exact ih (i + 1) n (by omega)
theorem texts_f (l : List ByteArray) (hl : l.length ≤ 500) (K : Nat) (hK : 502 ≤ K) : tocsinlaw3_texts.f K l l = some true := by
  refine lift (tocsinlaw3_texts.mono l l) (a := l.length + 1) ?_ K (by omega)
  unfold tocsinlaw3_texts.f
  rw [if_pos rfl]
  have := texts_l0 l (by omega) l.length 0 0 (by omega)
  rw [Nat.zero_add] at this
  exact this

end Go.Proofs.YtfoafigpimhppaaDoor.Pure
