/- What words are, byte by byte (law3). -/
import Derived.Test.YtfoafigpimhppaaDoorStNm
import Derived.Lib.TrimUEq
import Derived.Test.YtfoafigpimhppaaDoorPNmx0
namespace Go.Proofs.YtfoafigpimhppaaDoor.Pure
open Go.RowKit Go.Proofs.YtfoafigpimhppaaDoor.PNm Go.Proofs.YtfoafigpimhppaaDoorW.PrintWords Go.Proofs.YtfoafigpimhppaaDoorW.PrintLast Go.Proofs.YtfoafigpimhppaaDoorW.PrintMore Go.Lib
set_option linter.unusedVariables false
set_option linter.unusedSimpArgs false

def bL (s : ByteArray) : List UInt8 := s.data.toList
def Bs (l : List UInt8) : ByteArray := ⟨l.toArray⟩
theorem Bs_bL (s : ByteArray) : Bs (bL s) = s := Lib.mk_data s
theorem bL_Bs (l : List UInt8) : bL (Bs l) = l := by simp [bL, Bs]
theorem bL_len (s : ByteArray) : (bL s).length = s.size := (Lib.size_eq s).symm
theorem bL_append (a b : ByteArray) : bL (a ++ b) = bL a ++ bL b := by simp [bL]
theorem bL_extract (s : ByteArray) (a b : Nat) : bL (s.extract a b) = ((bL s).drop a).take (b - a) := Lib.extract_data s a b
theorem extract_Bs (s : ByteArray) (a b : Nat) : s.extract a b = Bs (((bL s).drop a).take (b - a)) := Lib.extract_eq s a b
theorem toL (s : ByteArray) : s.toList = bL s := Lib.toList_data s
theorem bL_inj {a b : ByteArray} (h : bL a = bL b) : a = b := by rw [← Bs_bL a, h, Bs_bL]
def blankB (b : UInt8) : Bool := b == 32 || b == 9
def wordsL : List UInt8 → List UInt8 → List (List UInt8)
  | [], cur => if cur = [] then [] else [cur]
  | b :: t, cur => if blankB b then (if cur = [] then wordsL t [] else cur :: wordsL t []) else wordsL t (cur ++ [b])
theorem wordsL_skip : ∀ (l1 l2 cur : List UInt8), (∀ b ∈ l1, blankB b = false) → wordsL (l1 ++ l2) cur = wordsL l2 (cur ++ l1)
  | [], l2, cur, _ => by simp
  | b :: t, l2, cur, h => by
    have hb := h b (List.mem_cons_self ..)
    rw [List.cons_append, wordsL, hb]
    simp only [Bool.false_eq_true, if_false]
    rw [wordsL_skip t l2 (cur ++ [b]) (fun x hx => h x (List.mem_cons_of_mem _ hx))]
    simp
theorem decodeN_cont (n b0 b1 b2 b3 : Nat) (h0 : 128 ≤ b0) :
    128 ≤ (decodeN n b0 b1 b2 b3).1 ∧ 1 ≤ (decodeN n b0 b1 b2 b3).2 ∧ (decodeN n b0 b1 b2 b3).2 ≤ 4 ∧ (2 ≤ (decodeN n b0 b1 b2 b3).2 → 128 ≤ b1) ∧ (3 ≤ (decodeN n b0 b1 b2 b3).2 → 128 ≤ b2) ∧ (4 ≤ (decodeN n b0 b1 b2 b3).2 → 128 ≤ b3) := by
  unfold decodeN
  repeat' split
  all_goals simp only
  all_goals omega
theorem take_get (l : List UInt8) (p K : Nat) (b : UInt8) (h : b ∈ (l.drop p).take K) : ∃ j, j < K ∧ b = l.getD (p + j) 0 := by
  obtain ⟨j, hj, e⟩ := List.mem_iff_getElem.1 h
  rw [List.length_take, List.length_drop] at hj
  refine ⟨j, by omega, ?_⟩
  rw [List.getElem_take, List.getElem_drop] at e
  rw [← e, List.getD_eq_getElem?_getD, List.getElem?_eq_getElem (by omega)]
  rfl
theorem u8_blank (b : UInt8) : blankB b = true ↔ (b.toNat = 32 ∨ b.toNat = 9) := by
  unfold blankB
  rw [Bool.or_eq_true, beq_iff_eq, beq_iff_eq]
  constructor
  · rintro (rfl | rfl)
    · exact .inl rfl
    · exact .inr rfl
  · rintro (h | h)
    · exact .inl (UInt8.toNat_inj.1 h)
    · exact .inr (UInt8.toNat_inj.1 h)
theorem drop_at (l : List UInt8) (p : Nat) (h : p < l.length) : l.drop p = l.getD p 0 :: l.drop (p + 1) := by
  rw [List.drop_eq_getElem_cons h, List.getD_eq_getElem?_getD, List.getElem?_eq_getElem h]
  rfl
theorem seg (s : ByteArray) (p : Nat) (h : p < s.size) :
    (((Utf8.decode s p).1 = 32 ∨ (Utf8.decode s p).1 = 9) → (Utf8.decode s p).2 = 1 ∧ blankB ((bL s).getD p 0) = true) ∧
    (¬ ((Utf8.decode s p).1 = 32 ∨ (Utf8.decode s p).1 = 9) → ∀ b ∈ ((bL s).drop p).take (Utf8.decode s p).2, blankB b = false) := by
  rw [Lib.decode_N s p]
  show ((decodeN ((bL s).length - p) ((bL s).getD p 0).toNat ((bL s).getD (p + 1) 0).toNat ((bL s).getD (p + 2) 0).toNat ((bL s).getD (p + 3) 0).toNat).1 = 32 ∨ _ → _) ∧ _
  by_cases ha : ((bL s).getD p 0).toNat < 128
  · have e : decodeN ((bL s).length - p) ((bL s).getD p 0).toNat ((bL s).getD (p + 1) 0).toNat ((bL s).getD (p + 2) 0).toNat ((bL s).getD (p + 3) 0).toNat = (((bL s).getD p 0).toNat, 1) := by unfold decodeN; rw [if_pos ha]
    rw [show (decodeN (s.data.toList.length - p) (s.data.toList.getD p 0).toNat (s.data.toList.getD (p + 1) 0).toNat (s.data.toList.getD (p + 2) 0).toNat (s.data.toList.getD (p + 3) 0).toNat) = (((bL s).getD p 0).toNat, 1) from e, e]
    refine ⟨fun hb => ⟨rfl, (u8_blank _).2 hb⟩, fun hn b hb => ?_⟩
    obtain ⟨j, hj, rfl⟩ := take_get _ _ _ _ hb
    obtain rfl : j = 0 := by simp only at hj; omega
    exact Bool.eq_false_iff.2 fun hx => hn ((u8_blank _).1 hx)
  · obtain ⟨c0, c1, c2, c3, c4, c5⟩ := decodeN_cont ((bL s).length - p) ((bL s).getD p 0).toNat ((bL s).getD (p + 1) 0).toNat ((bL s).getD (p + 2) 0).toNat ((bL s).getD (p + 3) 0).toNat (by omega)
    refine ⟨fun hb => hb.elim (fun hb => absurd (Nat.le_trans c0 (Nat.le_of_eq hb)) (by decide)) (fun hb => absurd (Nat.le_trans c0 (Nat.le_of_eq hb)) (by decide)), fun _ b hb => ?_⟩
    obtain ⟨j, hj, rfl⟩ := take_get _ _ _ _ hb
    replace hj : j < (decodeN ((bL s).length - p) ((bL s).getD p 0).toNat ((bL s).getD (p + 1) 0).toNat ((bL s).getD (p + 2) 0).toNat ((bL s).getD (p + 3) 0).toNat).2 := hj
    refine Bool.eq_false_iff.2 fun hx => ?_
    have hx' := (u8_blank _).1 hx
    rcases (by omega : j = 0 ∨ j = 1 ∨ j = 2 ∨ j = 3) with rfl | rfl | rfl | rfl
    · simp only [Nat.add_zero] at hx'; omega
    · have := c3 (by omega); omega
    · have := c4 (by omega); omega
    · have := c5 (by omega); omega
theorem wordsF_eq (s : ByteArray) : ∀ f p acc, s.size ≤ p + f → p ≤ s.size →
    wordsF s (runesF s f p) none acc = acc ++ (wordsL ((bL s).drop p) []).map Bs ∧
    ∀ a, a < p → wordsF s (runesF s f p) (some a) acc = acc ++ (wordsL ((bL s).drop p) (((bL s).drop a).take (p - a))).map Bs := by
  intro f
  have ends : ∀ p acc, p = s.size → (wordsF s [] none acc = acc ++ (wordsL ((bL s).drop p) []).map Bs ∧
      ∀ a, a < p → wordsF s [] (some a) acc = acc ++ (wordsL ((bL s).drop p) (((bL s).drop a).take (p - a))).map Bs) := by
    rintro p acc rfl
    have e0 : (bL s).drop s.size = [] := List.drop_eq_nil_of_le (by rw [bL_len]; exact Nat.le_refl _)
    rw [e0]
    refine ⟨by simp [wordsF, wordsL], fun a ha => ?_⟩
    have hne : ((bL s).drop a).take (s.size - a) ≠ [] := by
      intro h
      have := congrArg List.length h
      simp only [List.length_take, List.length_drop, bL_len, List.length_nil] at this
      omega
    simp only [wordsF, wordsL, hne, if_false, List.map_cons, List.map_nil]
    rw [extract_Bs]
  induction f with
  | zero =>
    intro p acc h0 h1
    exact ends p acc (by omega)
  | succ f ih =>
    intro p acc h0 h1
    by_cases hp : p < s.size
    · rw [runesF_step s f p hp]
      have hK := Lib.decode_width_pos s p hp
      have hF := decode_fits s p hp
      obtain ⟨sg1, sg2⟩ := seg s p hp
      obtain ⟨R, hR⟩ : ∃ R, (Utf8.decode s p).1 = R := ⟨_, rfl⟩
      obtain ⟨K, hKe⟩ : ∃ K, (Utf8.decode s p).2 = K := ⟨_, rfl⟩
      rw [hR, hKe] at sg1 sg2
      rw [hR, hKe]
      rw [hKe] at hK hF
      have hlen : p < (bL s).length := by rw [bL_len]; exact hp
      by_cases hb : R = 32 ∨ R = 9
      · obtain ⟨rfl, hbl⟩ := sg1 hb
        have hd := drop_at (bL s) p hlen
        have ih1 := fun acc => (ih (p + 1) acc (by omega) (by omega)).1
        refine ⟨?_, fun a ha => ?_⟩
        · simp only [wordsF, hb, if_true]
          rw [ih1, hd]
          simp only [wordsL, hbl, if_true]
        · have hne : ((bL s).drop a).take (p - a) ≠ [] := by
            intro h
            have := congrArg List.length h
            simp only [List.length_take, List.length_drop, bL_len, List.length_nil] at this
            omega
          simp only [wordsF, hb, if_true]
          rw [ih1, hd]
          simp only [wordsL, hbl, if_true, hne, if_false, List.map_cons]
          rw [extract_Bs]
          simp
      · have hsk := sg2 hb
        have hsplit : (bL s).drop p = ((bL s).drop p).take K ++ (bL s).drop (p + K) := by
          rw [← List.drop_drop, List.take_append_drop]
        have ih2 := fun acc => (ih (p + K) acc (by omega) (by omega)).2
        refine ⟨?_, fun a ha => ?_⟩
        · simp only [wordsF, hb, if_false]
          rw [ih2 acc p (by omega)]
          conv => rhs; rw [hsplit, wordsL_skip _ _ _ hsk]
          simp
        · simp only [wordsF, hb, if_false]
          rw [ih2 acc a (by omega)]
          conv => rhs; rw [hsplit, wordsL_skip _ _ _ hsk]
          congr 3
          have e : ((bL s).drop a).take (p + K - a) = ((bL s).drop a).take (p - a) ++ (((bL s).drop a).drop (p - a)).take K := by
            rw [← List.take_add]
            congr 1
            omega
          rw [e, List.drop_drop]
          congr 3
          omega
    · rw [runesF_end s _ p hp]
      exact ends p acc (by omega)
theorem wordsB_eq (s : ByteArray) : wordsB s = (wordsL (bL s) []).map Bs := by
  have := (wordsF_eq s s.size 0 [] (by omega) (Nat.zero_le _)).1
  simpa [wordsB, runes] using this

end Go.Proofs.YtfoafigpimhppaaDoor.Pure
