/- What codec's PutTrace and GetTrace compute, in plain numbers (law26). -/
import Derived.Test.YtpgfecaomdioeaaDoorPCtx2
import Derived.Test.YtpgfecaomdioeaaDoorCodGet
import Derived.Test.YtpgfecaomdioeaaDoorPCtInts
import Derived.Lib.SlBytesConst
import Derived.Lib.Strings
namespace Go.Proofs.YtpgfecaomdioeaaDoor.PCt
open Go.RowKit Go.Proofs.YtpgfecaomdioeaaDoor.PCt Go.Proofs.YtpgfecaomdioeaaDoorW.PrintWords Go.Proofs.YtpgfecaomdioeaaDoorW.PrintLast Go.Proofs.YtpgfecaomdioeaaDoorW.PrintMore 
set_option linter.unusedVariables false
set_option linter.unusedSimpArgs false

theorem w64 (x : Int) (h0 : -9223372036854775808 ≤ x) (h1 : x ≤ 9223372036854775807) : wrap64 x = x := by unfold wrap64; omega
theorem rd_at (t : List Int) (p : Nat) (h : p < t.length) : t.drop p = rd t (p : Int) :: t.drop (p + 1) := by
  rw [List.drop_eq_getElem_cons h]
  unfold rd
  rw [show ((p : Int).toNat) = p by omega, List.getD_eq_getElem?_getD, List.getElem?_eq_getElem h]
  rfl
def isB (l : List Int) : Prop := ∀ x ∈ l, 0 ≤ x ∧ x < 256
theorem isB_app {a b : List Int} (ha : isB a) (hb : isB b) : isB (a ++ b) := by
  intro x hx
  rcases List.mem_append.1 hx with h | h
  · exact ha x h
  · exact hb x h
-- a number's bytes
def encN (n : Nat) : List Int := if h : n < 128 then [(n : Int)] else (128 + (n % 128 : Nat) : Int) :: encN (n / 128)
termination_by n
decreasing_by omega
theorem encN_small (n : Nat) (h : n < 128) : encN n = [(n : Int)] := by rw [encN]; simp [h]
theorem encN_big (n : Nat) (h : ¬ n < 128) : encN n = (128 + (n % 128 : Nat) : Int) :: encN (n / 128) := by rw [encN]; simp [h]
theorem bit_or : ∀ c : Nat, c < 256 → Go.bits .or .u8 (c : Int) 128 = 128 + ((c % 128 : Nat) : Int) := by
  intro c h
  have : ∀ m : Fin 256, Go.bits .or .u8 ((m.val : Nat) : Int) 128 = 128 + ((m.val % 128 : Nat) : Int) := by decide +kernel
  exact this ⟨c, h⟩
theorem number_l0 : ∀ (d n k : Nat) (l : List Int), n < 128 ^ (d + 1) → d < k → l.length + d < 1000000000 → codec_number.l0 k l n = some (l ++ encN n) := by
  intro d
  induction d with
  | zero =>
    intro n k l hn hk hl
    obtain ⟨k, rfl⟩ : ∃ k', k = k' + 1 := ⟨k - 1, by omega⟩
    unfold codec_number.l0
    rw [if_neg (by omega), if_pos (by omega), encN_small n (by omega)]
    congr 3
    omega
  | succ d ih =>
    intro n k l hn hk hl
    obtain ⟨k, rfl⟩ : ∃ k', k = k' + 1 := ⟨k - 1, by omega⟩
    unfold codec_number.l0
    by_cases h : n < 128
    · rw [if_neg (by omega), if_pos (by omega), encN_small n h]
      congr 3
      omega
    · rw [if_pos (by omega), if_pos (by omega), encN_big n h, show ((n : Int) % 256) = ((n % 256 : Nat) : Int) by omega, bit_or _ (by omega), show ((n : Int) / 128) = ((n / 128 : Nat) : Int) by omega]
      rw [ih (n / 128) k _ (by rw [Nat.div_lt_iff_lt_mul (by decide)]; exact hn) (by omega) (by rw [List.length_append]; simp only [List.length_cons, List.length_nil]; omega), List.append_assoc]
      congr 3
      rw [show n % 256 % 128 = n % 128 by omega]
      rfl
theorem number_is (k n : Nat) (l : List Int) (hn : n < 268435456) (hk : 5 ≤ k) (hl : l.length < 900000000) : codec_number.f k l n = some (l ++ encN n) :=
  number_l0 3 n k l (by omega) (by omega) (by omega)
theorem encN_len (n : Nat) (hn : n < 16384) : (encN n).length ≤ 2 ∧ 1 ≤ (encN n).length := by
  by_cases h : n < 128
  · rw [encN_small n h]; simp
  · rw [encN_big n h, encN_small (n / 128) (by omega)]; simp
theorem encN_B (n : Nat) : isB (encN n) := by
  induction n using Nat.strongRecOn with
  | _ n ih =>
    by_cases h : n < 128
    · rw [encN_small n h]
      intro x hx
      simp at hx
      omega
    · rw [encN_big n h]
      intro x hx
      rcases List.mem_cons.1 hx with rfl | hx
      · omega
      · exact ih (n / 128) (by omega) x hx
theorem numL_enc (n : Nat) (hn : n < 16384) (r : List Int) : numL (encN n ++ r) 0 0 = some ((n : Int), (encN n).length) := by
  by_cases h : n < 128
  · rw [encN_small n h]
    simp only [List.cons_append, List.nil_append, numL]
    rw [if_neg (by omega), if_neg (by omega), if_neg (by omega)]
    simp
    omega
  · rw [encN_big n h, encN_small (n / 128) (by omega)]
    simp only [List.cons_append, List.nil_append, numL]
    rw [if_neg (by omega), if_pos (by omega), if_neg (by omega), if_neg (by omega), if_neg (by omega)]
    simp
    omega
theorem nV_enc (n : Nat) (hn : n < 16384) (r : List Int) : nV (encN n ++ r) = n := by unfold nV; rw [numL_enc n hn]
theorem nR_enc (n : Nat) (hn : n < 16384) (r : List Int) : nR (encN n ++ r) = r := by
  unfold nR
  rw [numL_enc n hn]
  simp
theorem nB_enc (n : Nat) (hn : n < 16384) (r : List Int) (b : Bool) : nB (encN n ++ r) b = b := by unfold nB; rw [numL_enc n hn]
-- sums
def sumL : List Int → Int → Int → Int
  | [], x, y => (((y * 65536) % 4294967296) + x) % 4294967296
  | c :: t, x, y => sumL t (((x + (c % 4294967296)) % 4294967296) % 65535) (((y + (((x + (c % 4294967296)) % 4294967296) % 65535)) % 4294967296) % 65535)
theorem Sum_l0 (l : List Int) (hl : l.length ≤ 1000000000) : ∀ d p k x y, p + d = l.length → d < k → codec_Sum.l0 k x y l l.length p = some (sumL (l.drop p) x y) := by
  intro d
  induction d with
  | zero =>
    intro p k x y hp hk
    obtain ⟨k, rfl⟩ : ∃ k', k = k' + 1 := ⟨k - 1, by omega⟩
    unfold codec_Sum.l0
    rw [if_neg (by omega), List.drop_of_length_le (by omega)]
    rfl
  | succ d ih =>
    intro p k x y hp hk
    obtain ⟨k, rfl⟩ : ∃ k', k = k' + 1 := ⟨k - 1, by omega⟩
    unfold codec_Sum.l0
    rw [rd_at l p (by omega), if_pos (by omega), if_pos (by omega), if_pos (by omega), w64 ((p : Int) + 1) (by omega) (by omega), show (p : Int) + 1 = ((p + 1 : Nat) : Int) by omega]
    exact ih (p + 1) k _ _ (by omega) (by omega)
theorem Sum_is (l : List Int) (hl : l.length ≤ 1000000000) (k : Nat) (hk : l.length < k) : codec_Sum.f k l = some (sumL l 0 0) := by
  have := Sum_l0 l hl l.length 0 k 0 0 (by omega) hk
  rw [List.drop_zero] at this
  exact this
def sum4 (s : Int) : List Int := [s % 256, (s / 256) % 256, (s / 65536) % 256, (s / 16777216) % 256]
def summedL (l : List Int) : List Int := l ++ sum4 (sumL l 0 0)
theorem summed_is (l : List Int) (hl : l.length ≤ 1000000) (k : Nat) (hk : l.length < k) : codec_summed.f k l = some (summedL l) := by
  unfold codec_summed.f summedL
  rw [Sum_is l (by omega) k hk, Option.bind_some, Option.bind_some, if_pos (by simp only [List.length_cons, List.length_nil]; omega)]
  rfl
theorem summed_len (l : List Int) : (summedL l).length = l.length + 4 := by unfold summedL sum4; simp
theorem summed_inj {a b : List Int} (h : summedL a = summedL b) : a = b := by
  have hl := congrArg List.length h
  rw [summed_len, summed_len] at hl
  unfold summedL at h
  exact (List.append_inj h (by omega)).1
theorem summed_B {l : List Int} (h : isB l) : isB (summedL l) := by
  refine isB_app h ?_
  unfold sum4
  intro x hx
  simp only [List.mem_cons, List.not_mem_nil, or_false] at hx
  omega
-- a trace's bytes
def runL (v : Int) : List Int → Nat
  | [] => 0
  | x :: t => if x = v then runL v t + 1 else 0
theorem runL_le (v : Int) : ∀ t : List Int, runL v t ≤ t.length
  | [] => Nat.le_refl _
  | x :: t => by
    simp only [runL, List.length_cons]
    split
    · have := runL_le v t; omega
    · omega
theorem runL_take (v : Int) : ∀ t : List Int, t = List.replicate (runL v t) v ++ t.drop (runL v t)
  | [] => rfl
  | x :: t => by
    simp only [runL]
    split
    · rename_i h
      rw [List.replicate_succ, List.cons_append, List.drop_succ_cons, ← runL_take v t, h]
    · simp
def body : Nat → List Int → List Int
  | 0, _ => []
  | _ + 1, [] => []
  | f + 1, v :: t => encN (runL v t + 1) ++ (encN (v + 1).toNat ++ body f (t.drop (runL v t)))
def mayT (t : List Int) : Bool := t.all (fun x => decide (-1 ≤ x ∧ x < 200)) && decide (t.length ≤ 10000)
def putT (t : List Int) : List Int := if mayT t = true then summedL (body t.length t) else []
theorem mayTrace_l0 (t : List Int) (hb : t.length ≤ 1000000) : ∀ d p k, p + d = t.length → d < k → codec_mayTrace.l0 k t t t.length p = some ((t.drop p).all (fun x => decide (-1 ≤ x ∧ x < 200)) && decide (t.length ≤ 10000)) := by
  intro d
  induction d with
  | zero =>
    intro p k hp hk
    obtain ⟨k, rfl⟩ : ∃ k', k = k' + 1 := ⟨k - 1, by omega⟩
    unfold codec_mayTrace.l0
    rw [if_neg (by omega), List.drop_of_length_le (by omega), List.all_nil, Bool.true_and]
    congr 1
    rw [decide_eq_decide]
    omega
  | succ d ih =>
    intro p k hp hk
    obtain ⟨k, rfl⟩ : ∃ k', k = k' + 1 := ⟨k - 1, by omega⟩
    unfold codec_mayTrace.l0
    rw [rd_at t p (by omega), if_pos (by omega), if_pos (by omega), if_pos (by omega), w64 ((p : Int) + 1) (by omega) (by omega), show (p : Int) + 1 = ((p + 1 : Nat) : Int) by omega, List.all_cons]
    by_cases c1 : rd t (p : Int) < -1
    · rw [if_pos c1, decide_eq_false (by omega)]; rfl
    rw [if_neg c1]
    by_cases c2 : rd t (p : Int) ≥ 200
    · rw [if_pos c2, decide_eq_false (by omega)]; rfl
    rw [if_neg c2, decide_eq_true (by omega), Bool.true_and]
    exact ih (p + 1) k (by omega) (by omega)
theorem mayTrace_is (t : List Int) (hb : t.length ≤ 1000000) (k : Nat) (hk : t.length < k) : codec_mayTrace.f k t = some (mayT t) := by
  have := mayTrace_l0 t hb t.length 0 k (by omega) hk
  rw [List.drop_zero] at this
  exact this
theorem l1_is (t : List Int) (ht : t.length ≤ 10000) (b : List Int) (hb : b.length ≤ 100000) (p : Nat) (hp : p < t.length) (v : Int) (hv : rd t (p : Int) = v) (h0 : -1 ≤ v) (h1 : v < 200) (k : Nat) (hk : 5 ≤ k) : ∀ d q, q + d = t.length → p ≤ q →
    codec_PutTrace.l1 (k + runL v (t.drop q) + 1) t b p q = codec_PutTrace.l0 k t (b ++ encN (q + runL v (t.drop q) - p) ++ encN (v + 1).toNat) ((q + runL v (t.drop q) : Nat) : Int) := by
  have fin : ∀ q : Nat, q ≤ t.length → p ≤ q → (codec_number.f k b (wrap64 ((q : Int) - (p : Int)))) = some (b ++ encN (q - p)) ∧ codec_number.f k (b ++ encN (q - p)) (wrap64 (v + 1)) = some (b ++ encN (q - p) ++ encN (v + 1).toNat) := by
    intro q hq hpq
    have hl := encN_len (q - p) (by omega)
    rw [w64 _ (by omega) (by omega), w64 _ (by omega) (by omega), show (q : Int) - (p : Int) = ((q - p : Nat) : Int) by omega]
    refine ⟨number_is k _ b (by omega) hk (by omega), ?_⟩
    have := number_is k (v + 1).toNat (b ++ encN (q - p)) (by omega) hk (by rw [List.length_append]; omega)
    rw [show (((v + 1).toNat : Nat) : Int) = v + 1 by omega] at this
    exact this
  intro d
  induction d with
  | zero =>
    intro q hq hpq
    rw [List.drop_of_length_le (by omega)]
    simp only [runL, Nat.add_zero]
    unfold codec_PutTrace.l1
    rw [if_neg (by omega), (fin q (by omega) hpq).1, Option.bind_some, if_pos (by omega), if_pos (by omega), hv, (fin q (by omega) hpq).2, Option.bind_some]
  | succ d ih =>
    intro q hq hpq
    rw [rd_at t q (by omega)]
    simp only [runL]
    unfold codec_PutTrace.l1
    rw [if_pos (by omega), if_pos (by omega), if_pos (by omega), if_pos (by omega), hv]
    by_cases c : rd t (q : Int) = v
    · rw [if_pos c, if_pos c, w64 ((q : Int) + 1) (by omega) (by omega), show (q : Int) + 1 = ((q + 1 : Nat) : Int) by omega]
      have := ih (q + 1) (by omega) (by omega)
      rw [show q + 1 + runL v (t.drop (q + 1)) = q + (runL v (t.drop (q + 1)) + 1) by omega] at this
      rw [show k + (runL v (t.drop (q + 1)) + 1) = k + runL v (t.drop (q + 1)) + 1 by omega]
      exact this
    · rw [if_neg c, if_neg c]
      simp only [Nat.add_zero]
      rw [(fin q (by omega) hpq).1, Option.bind_some, (fin q (by omega) hpq).2, Option.bind_some]
theorem body_step (f : Nat) (v : Int) (t : List Int) : body (f + 1) (v :: t) = encN (runL v t + 1) ++ (encN (v + 1).toNat ++ body f (t.drop (runL v t))) := rfl
theorem l0_is (t : List Int) (ht : t.length ≤ 10000) (hv : ∀ x ∈ t, -1 ≤ x ∧ x < 200) : ∀ f p k (b : List Int), t.length - p ≤ f → p ≤ t.length → b.length ≤ 4 * p → 50000 + 3 * (t.length - p) ≤ k →
    codec_PutTrace.l0 k t b p = some (summedL (b ++ body f (t.drop p))) := by
  intro f
  induction f with
  | zero =>
    intro p k b hf hp hb hk
    obtain ⟨k, rfl⟩ : ∃ k', k = k' + 1 := ⟨k - 1, by omega⟩
    unfold codec_PutTrace.l0
    rw [if_neg (by omega), summed_is b (by omega) k (by omega), Option.bind_some]
    simp [body]
  | succ f ih =>
    intro p k b hf hp hb hk
    obtain ⟨k, rfl⟩ : ∃ k', k = k' + 1 := ⟨k - 1, by omega⟩
    unfold codec_PutTrace.l0
    by_cases c : p < t.length
    · rw [if_pos (by omega)]
      have hm := hv (rd t (p : Int)) (by unfold rd; rw [List.getD_eq_getElem?_getD, List.getElem?_eq_getElem (by omega)]; exact List.getElem_mem _)
      have hr := runL_le (rd t (p : Int)) (t.drop p)
      rw [List.length_drop] at hr
      have hl1 := l1_is t ht b (by omega) p c _ rfl hm.1 hm.2 (k - runL (rd t (p : Int)) (t.drop p) - 1) (by omega) (t.length - p) p (by omega) (Nat.le_refl _)
      rw [show k - runL (rd t (p : Int)) (t.drop p) - 1 + runL (rd t (p : Int)) (t.drop p) + 1 = k by omega] at hl1
      rw [hl1]
      rw [rd_at t p c] at hr ⊢
      simp only [runL, if_true] at hr ⊢
      have e1 := encN_len (p + (runL (rd t (p : Int)) (t.drop (p + 1)) + 1) - p) (by omega)
      have e2 := encN_len (rd t (p : Int) + 1).toNat (by omega)
      rw [ih _ _ _ (by omega) (by omega) (by simp only [List.length_append]; omega) (by omega), body_step, List.drop_drop]
      rw [show p + (runL (rd t (p : Int)) (t.drop (p + 1)) + 1) - p = runL (rd t (p : Int)) (t.drop (p + 1)) + 1 by omega, List.append_assoc, List.append_assoc]
      rw [show p + (runL (rd t (p : Int)) (t.drop (p + 1)) + 1) = p + 1 + runL (rd t (p : Int)) (t.drop (p + 1)) by omega]
    · rw [if_neg (by omega), summed_is b (by omega) k (by omega), Option.bind_some, List.drop_of_length_le (by omega)]
      simp [body]
theorem mayT_all {t : List Int} (h : mayT t = true) : (∀ x ∈ t, -1 ≤ x ∧ x < 200) ∧ t.length ≤ 10000 := by
  unfold mayT at h
  rw [Bool.and_eq_true, List.all_eq_true, decide_eq_true_iff] at h
  exact ⟨fun x hx => of_decide_eq_true (h.1 x hx), h.2⟩
theorem PutTrace_is (t : List Int) (ht : t.length ≤ 10000) (k : Nat) (hk : 100000 ≤ k) : codec_PutTrace.f k t = some (putT t) := by
  unfold codec_PutTrace.f putT
  rw [mayTrace_is t (by omega) k (by omega), Option.bind_some]
  by_cases h : mayT t = true
  · rw [if_pos h, if_pos h]
    have := l0_is t ht (mayT_all h).1 t.length 0 k [] (by omega) (by omega) (by simp) (by omega)
    rw [List.drop_zero, List.nil_append, Int.natCast_zero] at this
    exact this
  · rw [if_neg h, if_neg h]
theorem body_B : ∀ f t, isB (body f t)
  | 0, _ => fun _ hx => by cases hx
  | f + 1, [] => fun _ hx => by cases hx
  | f + 1, v :: t => by
    rw [body_step]
    exact isB_app (encN_B _) (isB_app (encN_B _) (body_B f _))
theorem body_len : ∀ f (t : List Int), (∀ x ∈ t, -1 ≤ x ∧ x < 200) → t.length ≤ 10000 → (body f t).length ≤ 4 * t.length
  | 0, _, _, _ => by simp [body]
  | f + 1, [], _, _ => by simp [body]
  | f + 1, v :: t, hv, hl => by
    rw [body_step]
    have hr := runL_le v t
    simp only [List.length_cons] at hl
    have e1 := encN_len (runL v t + 1) (by omega)
    have hv0 := hv v (List.mem_cons_self ..)
    have e2 := encN_len (v + 1).toNat (by omega)
    have := body_len f (t.drop (runL v t)) (fun x hx => hv x (List.mem_cons_of_mem _ (List.mem_of_mem_drop hx))) (by rw [List.length_drop]; omega)
    rw [List.length_drop] at this
    simp only [List.length_append, List.length_cons]
    omega
theorem putT_B (t : List Int) : isB (putT t) := by
  unfold putT
  split
  · exact summed_B (body_B _ _)
  · exact fun _ hx => by cases hx
theorem putT_len (t : List Int) : (putT t).length ≤ 40004 := by
  unfold putT
  split
  · rename_i h
    have := body_len t.length t (mayT_all h).1 (mayT_all h).2
    have := (mayT_all h).2
    rw [summed_len]
    omega
  · simp
/-- What is written is read again. -/
theorem getL_body : ∀ (f : Nat) (t u : List Int) (g : Nat), t.length ≤ f → (∀ x ∈ t, -1 ≤ x ∧ x < 200) → u.length + t.length ≤ 10000 → (body f t).length ≤ g → getL g (body f t) false u = some (u ++ t, false)
  | f, [], u, g, _, _, _, _ => by
    have : body f [] = [] := by cases f <;> rfl
    rw [this]
    cases g with
    | zero => simp [getL]
    | succ g => simp [getL]
  | 0, _ :: _, _, _, h, _, _, _ => by simp at h
  | f + 1, v :: t, u, g, hf, hv, hl, hg => by
    have hr := runL_le v t
    have hv0 := hv v (List.mem_cons_self ..)
    simp only [List.length_cons] at hf hl
    have e1 := encN_len (runL v t + 1) (by omega)
    rw [body_step] at hg ⊢
    simp only [List.length_append] at hg
    obtain ⟨g, rfl⟩ : ∃ g', g = g' + 1 := ⟨g - 1, by omega⟩
    simp only [getL]
    rw [if_neg (by simp only [List.length_append]; omega), nV_enc _ (by omega), nR_enc _ (by omega), nB_enc _ (by omega), nV_enc _ (by omega), nR_enc _ (by omega), nB_enc _ (by omega), if_neg (by omega)]
    rw [getL_body f _ _ g (by rw [List.length_drop]; omega) (fun x hx => hv x (List.mem_cons_of_mem _ (List.mem_of_mem_drop hx))) (by simp only [List.length_append, List.length_replicate, List.length_drop]; omega) (by omega)]
    rw [show ((runL v t + 1 : Nat) : Int).toNat = runL v t + 1 by omega, show (((v + 1).toNat : Nat) : Int) - 1 = v by omega, List.replicate_succ, List.append_assoc, List.cons_append, ← runL_take v t]
theorem putT_inj {a b : List Int} (ha : mayT a = true) (hb : mayT b = true) (h : putT a = putT b) : a = b := by
  unfold putT at h
  rw [if_pos ha, if_pos hb] at h
  have h := summed_inj h
  have ga := getL_body a.length a [] ((body a.length a).length + (body b.length b).length) (Nat.le_refl _) (mayT_all ha).1 (by have := (mayT_all ha).2; simpa using this) (by omega)
  have gb := getL_body b.length b [] ((body a.length a).length + (body b.length b).length) (Nat.le_refl _) (mayT_all hb).1 (by have := (mayT_all hb).2; simpa using this) (by omega)
  rw [h] at ga gb
  rw [gb] at ga
  simpa using ga.symm
theorem map_inj : ∀ (a b : List Int), isB a → isB b → a.map (fun n => UInt8.ofNat n.toNat) = b.map (fun n => UInt8.ofNat n.toNat) → a = b
  | [], [], _, _, _ => rfl
  | [], _ :: _, _, _, h => by simp at h
  | _ :: _, [], _, _, h => by simp at h
  | x :: a, y :: b, ha, hb, h => by
    simp only [List.map_cons, List.cons.injEq] at h
    have hx := ha x (List.mem_cons_self ..)
    have hy := hb y (List.mem_cons_self ..)
    have e : x = y := by
      have := congrArg UInt8.toNat h.1
      simp only [UInt8.toNat_ofNat'] at this
      omega
    rw [e, map_inj a b (fun z hz => ha z (List.mem_cons_of_mem _ hz)) (fun z hz => hb z (List.mem_cons_of_mem _ hz)) h.2]
theorem strOf_inj {a b : List Int} (ha : isB a) (hb : isB b) : ((strOfNums a).toList == (strOfNums b).toList) = decide (a = b) := by
  rw [Bool.eq_iff_iff, beq_iff_eq, decide_eq_true_iff, Lib.toList_data, Lib.toList_data, strOfNums_data, strOfNums_data]
  exact ⟨map_inj a b ha hb, fun h => by rw [h]⟩
theorem Equal_is {a b : List Int} (ha : isB a) (hb : isB b) : bytes_Equal.f a b = some (decide (a = b)) := by
  unfold bytes_Equal.f
  rw [strOf_inj ha hb]
def wbT (l : List Int) : Bool := decide (summedL (l.take (l.length - 4)) = l)
theorem isB_take {l : List Int} (h : isB l) (n : Nat) : isB (l.take n) := fun x hx => h x (List.mem_of_mem_take hx)
theorem wholeB_is (l : List Int) (hb : isB l) (hl : l.length ≤ 1000000) (k : Nat) (hk : 1000001 ≤ k) : wholeB k l = some (wbT l) := by
  unfold wholeB wbT
  rw [summed_is _ (by rw [List.length_take]; omega) k (by rw [List.length_take]; omega), Option.bind_some, Equal_is (summed_B (isB_take hb _)) hb]
def readT (l : List Int) : List Int × Int := match getT putT l (wbT l) with | none => ([], 3) | some t => (t, 0)
def codec_GetTrace.f (l0 : List Int) : Option (List Int × Int) := if l0.length ≤ 1000000 ∧ l0.all (fun x => decide (0 ≤ x ∧ x < 256)) = true then some (readT l0) else none
theorem codec_GetTrace.calls (A0 : Option Addr) (c0 : Nat) (l0 : List Int) (r1 : List Int) (r2 : Int) (w : World) (hr0 : Kd.C (Kd.int .u8) w A0 l0.length l0) (hc0 : l0.length ≤ c0) (h : codec_GetTrace.f l0 = some (r1, r2)) :
    Calls Tryd.prog 7 #[.slice A0 l0.length c0] w fun e w' => ∃ v0_ : Value, e = .returned (.tuple #[v0_, .int .i64 r2]) ∧ Kd.R (Kd.int .i64) 3 w' w.heap.size (fun _ => True) v0_ r1 ∧ Below w.heap.size w w' := by
  unfold codec_GetTrace.f at h
  split at h
  · rename_i hh
    obtain ⟨hl, hB⟩ := hh
    have hb : isB l0 := fun x hx => of_decide_eq_true (List.all_eq_true.1 hB x hx)
    have h := Option.some.inj h
    unfold readT at h
    have none_ : ∀ {e : Ending} {w' : World}, getT putT l0 (wbT l0) = none → e = .returned (.tuple #[.slice none 0 0, .int .i64 3]) ∧ Below w.heap.size w w' → ∃ v0_ : Value, e = .returned (.tuple #[v0_, .int .i64 r2]) ∧ Kd.R (Kd.int .i64) 3 w' w.heap.size (fun _ => True) v0_ r1 ∧ Below w.heap.size w w' := by
      rintro e w' hn ⟨rfl, hb'⟩
      rw [hn] at h
      injection h with h1 h2
      subst h1 h2
      exact ⟨_, rfl, Kd.R_nil _ _ _ _ _, hb'⟩
    by_cases h4 : l0.length < 4
    · exact (get_short A0 c0 l0 w h4).mono fun e w' => none_ (by unfold getT; rw [if_pos h4])
    · have hw := wholeB_is l0 hb hl 1000001 (Nat.le_refl _)
      cases hwb : wbT l0 with
      | false =>
        rw [hwb] at hw
        exact (get_torn 1000001 A0 c0 l0 w hr0 hc0 hl (by omega) hw).mono fun e w' => none_ (by rw [hwb]; unfold getT; rw [if_neg h4, if_pos rfl])
      | true =>
        rw [hwb] at hw
        refine (get_whole 1000001 putT A0 c0 l0 w hr0 hc0 hl (by omega) hb hw (fun t ht => PutTrace_is t ht _ (by decide)) (fun t _ => Equal_is (putT_B t) hb)).mono ?_
        intro e w' hp
        unfold GetPost at hp
        rw [hwb] at h
        cases hg : getT putT l0 true with
        | none =>
          rw [hg] at hp
          exact none_ (by rw [hwb, hg]) hp
        | some t =>
          rw [hg] at hp h
          injection h with h1 h2
          subst h1 h2
          obtain ⟨⟨v, rfl, hR⟩, hb'⟩ := hp
          exact ⟨v, rfl, hR, hb'⟩
  · cases h
theorem read_put (t : List Int) (h : mayT t = true) : readT (putT t) = (t, 0) := by
  have hl : (putT t).length = (body t.length t).length + 4 := by unfold putT; rw [if_pos h, summed_len]
  have ht : (putT t).take ((putT t).length - 4) = body t.length t := by
    rw [hl, Nat.add_sub_cancel]
    unfold putT summedL
    rw [if_pos h, List.take_left']
    rfl
  have hw : wbT (putT t) = true := by
    unfold wbT
    rw [ht, decide_eq_true_iff]
    unfold putT
    rw [if_pos h]
  unfold readT getT
  rw [hw, if_neg (by omega), if_neg (by decide), ht, hl, Nat.add_sub_cancel, getL_body t.length t [] _ (Nat.le_refl _) (mayT_all h).1 (by have := (mayT_all h).2; simpa using this) (Nat.le_refl _)]
  simp
theorem getTrace_put (t : List Int) (h : mayT t = true) : codec_GetTrace.f (putT t) = some (t, 0) := by
  unfold codec_GetTrace.f
  rw [if_pos ⟨by have := putT_len t; omega, List.all_eq_true.2 fun x hx => decide_eq_true (putT_B t x hx)⟩, read_put t h]
theorem getT_put {l t : List Int} (h : getT putT l (wbT l) = some t) : putT t = l := by
  unfold getT at h
  split at h
  · cases h
  split at h
  · cases h
  split at h
  · cases h
  · split at h
    · cases h
    split at h
    · injection h with h
      subst h
      assumption
    · cases h
theorem ints_l0 (a b : List Int) (ha : a.length ≤ 1000000) (hl : a.length = b.length) : ∀ d p k, p + d = a.length → d < k → tocsinlaw26_ints.l0 k a b p = some (decide (a.drop p = b.drop p)) := by
  intro d
  induction d with
  | zero =>
    intro p k hp hk
    obtain ⟨k, rfl⟩ : ∃ k', k = k' + 1 := ⟨k - 1, by omega⟩
    unfold tocsinlaw26_ints.l0
    rw [if_neg (by omega), List.drop_of_length_le (by omega), List.drop_of_length_le (by omega)]
    rfl
  | succ d ih =>
    intro p k hp hk
    obtain ⟨k, rfl⟩ : ∃ k', k = k' + 1 := ⟨k - 1, by omega⟩
    unfold tocsinlaw26_ints.l0
    rw [rd_at a p (by omega), rd_at b p (by omega), if_pos (by omega), if_pos (by omega), if_pos (by omega), w64 ((p : Int) + 1) (by omega) (by omega), show (p : Int) + 1 = ((p + 1 : Nat) : Int) by omega]
    by_cases c : rd a (p : Int) = rd b (p : Int)
    · rw [if_pos c, ih (p + 1) k (by omega) (by omega), c]
      congr 1
      rw [decide_eq_decide]
      exact ⟨fun h => by rw [h], fun h => (List.cons.inj h).2⟩
    · rw [if_neg c]
      congr 1
      symm
      rw [decide_eq_false_iff_not]
      exact fun h => c (List.cons.inj h).1
theorem ints_is (a b : List Int) (ha : a.length ≤ 1000000) (k : Nat) (hk : a.length < k) : tocsinlaw26_ints.f k a b = some (decide (a = b)) := by
  unfold tocsinlaw26_ints.f
  by_cases hl : a.length = b.length
  · rw [if_pos (by omega)]
    have := ints_l0 a b ha hl a.length 0 k (by omega) hk
    rw [List.drop_zero, List.drop_zero] at this
    exact this
  · rw [if_neg (by omega)]
    congr 1
    symm
    rw [decide_eq_false_iff_not]
    exact fun h => hl (by rw [h])
theorem R_raw (W : World) (xs : List Int) (hl : xs.length ≤ maxLen) : Kd.R (Kd.int .i64) 3 (W.alloc (.cells (xs.map (Value.int .i64)).toArray 3)) W.heap.size (fun _ => True) (.slice (some ⟨W.heap.size, 0, none⟩) xs.length xs.length) xs := by
  refine ⟨fun _ _ => trivial, xs.map (Value.int .i64), ⟨by show _ = xs.length * 1; simp, Or.inr ⟨W.heap.size, xs.length, (xs.map (Value.int .i64)).toArray, rfl, Nat.le_refl _, by show (W.heap.push _)[W.heap.size]? = _; simp, Nat.le_refl _, hl, by show _ = xs.length * 1; simp, ?_⟩⟩, ?_⟩
  · show List.take (xs.length * 1) _ = _
    exact List.take_of_length_le (by simp)
  · exact Kd.reps_scalar xs
theorem raw_C (W : World) (xs : List Int) (hl : xs.length ≤ maxLen) : Kd.C (Kd.int .i64) (W.alloc (.cells (xs.map (Value.int .i64)).toArray 3)) (some ⟨W.heap.size, 0, none⟩) xs.length xs := (Kd.R_reads' (R_raw W xs hl)).2.2
theorem ab_C (W : World) : Kd.C (Kd.int .u8) (W.alloc (.cells #[.int .u8 97, .int .u8 98] 5 (2, 3))) (some ⟨W.heap.size, 0, none⟩) 2 [97, 98] := by
  refine Kd.C_of_reads (d := (0 : Int)) (h1 := fun _ => rfl) ⟨rfl, by decide, fun _ => ⟨_, rfl, fun j hj => ?_⟩⟩
  have hc : ∀ j, (W.alloc (.cells #[.int .u8 97, .int .u8 98] 5 (2, 3))).cell? ⟨W.heap.size, j, none⟩ = (#[Value.int .u8 97, Value.int .u8 98] : Array Value)[j]? := World.cell?_alloc_mark W _ _ _
  match j, hj with
  | 0, _ => simpa [Addr.add] using hc 0
  | 1, _ => simpa [Addr.add] using hc 1
theorem put_len : (putT [0, 0, -1]).length = 8 := by
  show (summedL (encN 2 ++ (encN 1 ++ (encN 1 ++ (encN 0 ++ []))))).length = 8
  rw [summed_len, encN_small 2 (by decide), encN_small 1 (by decide), encN_small 0 (by decide)]
  rfl

end Go.Proofs.YtpgfecaomdioeaaDoor.PCt
