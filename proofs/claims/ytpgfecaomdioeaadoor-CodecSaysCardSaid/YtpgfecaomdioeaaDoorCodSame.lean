/- codec's traces and jobs as the reference's, in plain lists. -/
-- slim
import Derived.Test.YtpgfecaomdioeaaDoorPCtx6
import Derived.Test.YtpgfecaomdioeaaDoorStGk
import Derived.Test.YtpgfecaomdioeaaDoorCodAgree
namespace Go.Proofs.YtpgfecaomdioeaaDoor.PCt
open Go.RowKit Go.Proofs.YtpgfecaomdioeaaDoor.PCt Go.Proofs.YtpgfecaomdioeaaDoorW.PrintWords Go.Proofs.YtpgfecaomdioeaaDoorW.PrintLast Go.Proofs.YtpgfecaomdioeaaDoorW.PrintMore 
set_option linter.unusedVariables false
set_option linter.unusedSimpArgs false

theorem grp_enc (n : Nat) (hn : n < 268435456) (r : List Int) : grpL (encN n ++ r) 0 0 = some ((n : Int), (encN n).length) := by
 by_cases h1 : n < 128
 ·rw [encN_small n h1]
  simp only [List.cons_append, List.nil_append, grpL]
  rw [if_neg (by omega), if_neg (by omega), if_neg (by omega)]
  simp
  omega
 rw [encN_big n h1]
 by_cases h2 : n / 128 < 128
 ·rw [encN_small _ h2]
  simp only [List.cons_append, List.nil_append, grpL]
  rw [if_neg (by omega), if_pos (by omega), if_neg (by omega), if_neg (by omega), if_neg (by omega)]
  simp
  omega
 rw [encN_big _ h2]
 by_cases h3 : n / 128 / 128 < 128
 ·rw [encN_small _ h3]
  simp only [List.cons_append, List.nil_append, grpL]
  rw [if_neg (by omega), if_pos (by omega), if_neg (by omega), if_pos (by omega), if_neg (by omega), if_neg (by omega), if_neg (by omega)]
  simp
  omega
 rw [encN_big _ h3, encN_small _ (by omega)]
 simp only [List.cons_append, List.nil_append, grpL]
 rw [if_neg (by omega), if_pos (by omega), if_neg (by omega), if_pos (by omega), if_neg (by omega), if_pos (by omega), if_neg (by omega), if_neg (by omega), if_neg (by omega)]
 simp
 omega
theorem mV_enc (n : Nat) (hn : n < 268435456) (r : List Int) : mV (encN n ++ r) false = n := by
 unfold mV
 rw [if_neg (by decide), grp_enc n hn]
 rfl
theorem mR_enc (n : Nat) (hn : n < 268435456) (r : List Int) : mR (encN n ++ r) false = r := by
 unfold mR
 rw [if_neg (by decide), grp_enc n hn]
 simp
theorem mB_enc (n : Nat) (hn : n < 268435456) (r : List Int) : mB (encN n ++ r) false = false := by
 unfold mB
 rw [grp_enc n hn]
 rfl
theorem grp_inv : ∀ (l : List Int) (i : Nat) (n x : Int) (k : Nat), (∀ c ∈ l, 0 ≤ c ∧ c < 256) → grpL l i n = some (x, k) →
  ∃ y : Nat, x = n + y * 128 ^ i ∧ (0 < i → 0 < y) ∧ encN y = l.take (k - i) ∧ i < k
 | [], _, _, _, _, _, h => by cases h
 | c :: t, i, n, x, k, hb, h => by
  have hc := hb c (List.mem_cons_self ..)
  simp only [grpL] at h
  split at h
  ·cases h
  split at h
  ·rename_i h128
   obtain ⟨y, h1, h2, h3, h4⟩ := grp_inv t (i + 1) _ x k (fun z hz => hb z (List.mem_cons_of_mem _ hz)) h
   have hy := h2 (by omega)
   refine ⟨(c % 128).toNat + 128 * y, ?_, fun _ => by omega, ?_, by omega⟩
   ·rw [h1, Int.pow_succ, show (((c % 128).toNat + 128 * y : Nat) : Int) = c % 128 + 128 * (y : Int) by omega, Int.add_mul, Int.add_assoc]
    congr 2
    rw [Int.mul_comm (128 ^ i) 128, ← Int.mul_assoc, Int.mul_comm (y : Int) 128]
   ·rw [encN_big _ (by omega), show ((c % 128).toNat + 128 * y) / 128 = y by omega, h3, show k - i = (k - (i + 1)) + 1 by omega, List.take_succ_cons]
    congr 1
    omega
  rename_i h128
  split at h
  ·cases h
  ·rename_i hz
   injection h with h
   injection h with h1 h2
   refine ⟨c.toNat, ?_, fun hi => ?_, ?_, by omega⟩
   ·rw [← h1, show ((c.toNat : Nat) : Int) = c by omega, show c % 128 = c by omega]
   ·have : c ≠ 0 := fun e => hz ⟨hi, e⟩
    omega
   ·rw [encN_small _ (by omega), ← h2, show i + 1 - i = 0 + 1 by omega, List.take_succ_cons, List.take_zero]
    congr 1
    omega
theorem step_inv (l : List Int) (hb : ∀ c ∈ l, 0 ≤ c ∧ c < 256) (h : mB l false = false) : l = encN (mV l false).toNat ++ mR l false := by
 unfold mB at h
 unfold mV mR
 rw [if_neg (by decide), if_neg (by decide)]
 cases hg : grpL l 0 0 with
 | none => rw [hg] at h; cases h
 | some p =>
  obtain ⟨x, k⟩ := p
  obtain ⟨y, h1, _, h3, _⟩ := grp_inv l 0 0 x k hb hg
  show l = encN x.toNat ++ l.drop k
  rw [show x.toNat = y by rw [h1]; omega, h3, Nat.sub_zero, List.take_append_drop]
theorem run_stop (v : Int) : ∀ t : List Int, (t.drop (runL v t)).head? ≠ some v
 | [] => by simp [runL]
 | x :: t => by
  simp only [runL]
  split
  ·rw [List.drop_succ_cons]; exact run_stop v t
  ·rename_i h
   simpa using h
theorem run_app (v : Int) : ∀ (n : Nat) (s : List Int), s.head? ≠ some v → runL v (List.replicate n v ++ s) = n
 | 0, [], _ => rfl
 | 0, x :: s, h => by
  simp only [List.replicate_zero, List.nil_append, runL]
  rw [if_neg (by simpa using h)]
 | n + 1, s, h => by
  rw [List.replicate_succ, List.cons_append]
  simp only [runL, if_true]
  rw [run_app v n s h]
theorem refT_body : ∀ (f : Nat) (t u : List Int) (last : Int) (g : Nat), t.length ≤ f → (∀ x ∈ t, -1 ≤ x ∧ x < 200) → u.length + t.length ≤ 10000 → t.head? ≠ some last → (body f t).length ≤ g → refT g (body f t) last u = some (u ++ t)
 | f, [], u, last, g, _, _, _, _, _ => by
  have : body f [] = [] := by cases f <;> rfl
  rw [this, List.append_nil]
  cases g with
  | zero => rfl
  | succ g => simp [refT]
 | 0, _ :: _, _, _, _, h, _, _, _, _ => by simp at h
 | f + 1, v :: t, u, last, g, hf, hv, hl, hh, hg => by
  have hr := runL_le v t
  have hv0 := hv v (List.mem_cons_self ..)
  simp only [List.length_cons] at hf hl
  have e1 := encN_len (runL v t + 1) (by omega)
  rw [body_step] at hg ⊢
  simp only [List.length_append] at hg
  obtain ⟨g, rfl⟩ : ∃ g', g = g' + 1 := ⟨g - 1, by omega⟩
  simp only [refT]
  rw [if_neg (by simp only [List.length_append]; omega), mR_enc _ (by omega), mB_enc _ (by omega), mV_enc _ (by omega), mR_enc _ (by omega), mB_enc _ (by omega), mV_enc _ (by omega)]
  have hne : v ≠ last := fun e => hh (by rw [e]; rfl)
  rw [show (((v + 1).toNat : Nat) : Int) - 1 = v by omega]
  rw [if_neg (by simp only [not_or]; exact ⟨by decide, by omega, by omega, by omega, hne⟩)]
  rw [refT_body f (t.drop (runL v t)) _ v g (by rw [List.length_drop]; omega) (fun x hx => hv x (List.mem_cons_of_mem _ (List.mem_of_mem_drop hx))) (by simp only [List.length_append, List.length_replicate, List.length_drop]; omega) (run_stop v t) (by omega)]
  rw [show ((runL v t + 1 : Nat) : Int).toNat = runL v t + 1 by omega, List.replicate_succ, List.append_assoc, List.cons_append, ← runL_take v t]
theorem refT_inv : ∀ (f : Nat) (l : List Int) (last : Int) (u t : List Int), (∀ c ∈ l, 0 ≤ c ∧ c < 256) → u.length ≤ 10000 → l.length ≤ f → refT f l last u = some t →
  ∃ s, t = u ++ s ∧ (∀ x ∈ s, -1 ≤ x ∧ x < 200) ∧ t.length ≤ 10000 ∧ s.head? ≠ some last ∧ ∀ F, s.length ≤ F → body F s = l := by
 have done : ∀ (l : List Int) (last : Int) (u t : List Int), u.length ≤ 10000 → l.length = 0 → u = t → ∃ s, t = u ++ s ∧ (∀ x ∈ s, -1 ≤ x ∧ x < 200) ∧ t.length ≤ 10000 ∧ s.head? ≠ some last ∧ ∀ F, s.length ≤ F → body F s = l := by
  rintro l last u t hu hl rfl
  obtain rfl := List.eq_nil_of_length_eq_zero hl
  exact ⟨[], by simp, by simp, hu, by simp, fun F _ => by cases F <;> rfl⟩
 intro f
 induction f with
 | zero =>
  intro l last u t hb hu hl h
  exact done l last u t hu (by omega) (Option.some.inj h)
 | succ f ih =>
  intro l last u t hb hu hl h
  simp only [refT] at h
  by_cases h0 : l.length = 0
  ·rw [if_pos h0] at h
   exact done l last u t hu h0 (Option.some.inj h)
  rw [if_neg h0] at h
  by_cases hq : mB (mR l false) (mB l false) = true ∨ mV l false < 1 ∨ mV l false > 10000 - (u.length : Int) ∨ mV (mR l false) (mB l false) - 1 > 199 ∨ mV (mR l false) (mB l false) - 1 = last
  ·rw [if_pos hq] at h; cases h
  rw [if_neg hq] at h
  simp only [not_or] at hq
  obtain ⟨q1, q2, q3, q4, q5⟩ := hq
  have hb1 : mB l false = false := by
   cases hx : mB l false with
   | false => rfl
   | true => rw [hx] at q1; exact absurd rfl q1
  rw [hb1] at h q1 q4 q5
  have hb2 : mB (mR l false) false = false := by
   cases hx : mB (mR l false) false with
   | false => rfl
   | true => exact absurd hx q1
  have hbs : ∀ c ∈ mR l false, 0 ≤ c ∧ c < 256 := fun c hc => hb c (mR_mem l false c hc)
  have s1 := step_inv l hb hb1
  have s2 := step_inv (mR l false) hbs hb2
  have v1 := mV_bd l false hb
  have v2 := mV_bd (mR l false) false hbs
  have hlt := mB_lt l false hb hb1
  have hle := mR_le (mR l false) false
  obtain ⟨s, g1, g2, g3, g4, g5⟩ := ih _ _ _ t (fun c hc => hbs c (mR_mem _ false c hc)) (by rw [List.length_append, List.length_replicate]; omega) (by omega) h
  generalize mR (mR l false) false = l3 at s2 g5 hle
  generalize mV (mR l false) false = V at *
  generalize mR l false = l2 at *
  generalize mV l false = N at *
  obtain ⟨n, rfl⟩ : ∃ n : Nat, N = n + 1 := ⟨(N - 1).toNat, by omega⟩
  rw [show ((n : Int) + 1).toNat = n + 1 by omega] at *
  refine ⟨List.replicate (n + 1) (V - 1) ++ s, by rw [g1, List.append_assoc], ?_, g3, ?_, ?_⟩
  ·intro x hx
   rcases List.mem_append.1 hx with hx | hx
   ·obtain ⟨_, rfl⟩ := List.mem_replicate.1 hx
    omega
   ·exact g2 x hx
  ·rw [List.replicate_succ, List.cons_append]
   simpa using q5
  ·intro F hF
   rw [List.length_append, List.length_replicate] at hF
   obtain ⟨F, rfl⟩ : ∃ F', F = F' + 1 := ⟨F - 1, by omega⟩
   rw [List.replicate_succ, List.cons_append, body_step, run_app _ _ _ g4, List.drop_left' (List.length_replicate ..), g5 F (by omega), show V - 1 + 1 = V by omega, ← s2]
   exact s1.symm
theorem wb_is {l : List Int} (h : wbT l = true) : summedL (l.take (l.length - 4)) = l := of_decide_eq_true h
/-- Any bytes: both read the same trace, or both refuse. -/
theorem trace_same (l : List Int) (hb : ∀ c ∈ l, 0 ≤ c ∧ c < 256) :
  ((readRT l).2 = true ∧ readT l = ((readRT l).1, 0)) ∨ (readRT l = ([], false) ∧ readT l = ([], 3)) := by
 unfold readRT openL
 by_cases h4 : l.length < 4
 ·rw [if_pos h4]
  refine .inr ⟨rfl, ?_⟩
  unfold readT getT
  rw [if_pos h4]
 rw [if_neg h4]
 cases hw : wbT l with
 | false =>
  refine .inr ⟨rfl, ?_⟩
  unfold readT getT
  rw [if_neg h4, hw, if_pos rfl]
 | true =>
  rw [if_neg (show ¬ ((l.take (l.length - 4), true) : List Int × Bool).2 = false from fun h => by cases h)]
  show (sayT (refT (l.take (l.length - 4)).length (l.take (l.length - 4)) (-2) [])).2 = true ∧ _ ∨ _
  have hwb := wb_is hw
  have hbr : ∀ c ∈ l.take (l.length - 4), 0 ≤ c ∧ c < 256 := fun c hc => hb c (List.mem_of_mem_take hc)
  cases hq : refT (l.take (l.length - 4)).length (l.take (l.length - 4)) (-2) [] with
  | some t =>
   refine .inl ⟨rfl, ?_⟩
   obtain ⟨s, g1, g2, g3, _, g5⟩ := refT_inv _ _ _ _ t hbr (by decide) (Nat.le_refl _) hq
   rw [List.nil_append] at g1
   subst g1
   have hm : mayT t = true := by
    unfold mayT
    rw [Bool.and_eq_true, List.all_eq_true, decide_eq_true_iff]
    exact ⟨fun x hx => decide_eq_true (g2 x hx), g3⟩
   have hp : putT t = l := by
    unfold putT
    rw [if_pos hm, g5 _ (Nat.le_refl _), hwb]
   have hr := read_put t hm
   rw [hp] at hr
   exact hr
  | none =>
   refine .inr ⟨rfl, ?_⟩
   unfold readT
   cases hg : getT putT l (wbT l) with
   | none => rfl
   | some t =>
    have hp := getT_put hg
    have hm : mayT t = true := by
     cases hm : mayT t with
     | true => rfl
     | false =>
      unfold putT at hp
      rw [hm, if_neg (by decide)] at hp
      rw [← hp] at h4
      exact absurd (by simp) h4
    have hmm := mayT_all hm
    unfold putT at hp
    rw [if_pos hm, ← hwb] at hp
    have hbod := summed_inj hp
    rw [← hbod] at hq
    rw [refT_body t.length t [] (-2) _ (Nat.le_refl _) hmm.1 (by have := hmm.2; simpa using this) (by
     cases t with
     | nil => simp
     | cons x t => have := hmm.1 x (List.mem_cons_self ..); simp; omega) (Nat.le_refl _)] at hq
    cases hq
-- the reference's PutTrace
section
variable (t : List Int) (ht : t.length ≤ 10000)
include ht
theorem rl2_is (b : List Int) (hb : b.length ≤ 50000) (p : Nat) (hp : p < t.length) (v : Int) (hv : rd t (p : Int) = v) (hv0 : -1 ≤ v) (hv1 : v < 200) (k : Nat) (hk : 10 ≤ k) : ∀ (d q : Nat), p + q + d = t.length → 1 ≤ q →
  tocsinref8_PutTrace.l2 (k + runL v (t.drop (p + q)) + 1) t b p q = tocsinref8_PutTrace.l1 k t (b ++ encN (q + runL v (t.drop (p + q))) ++ encN (v + 1).toNat) ((p + q + runL v (t.drop (p + q)) : Nat) : Int) := by
 have grp : ∀ (n : Nat) (x : List Int), n < 268435456 → x.length < 900000000 → tocsinref8_group.f k x (n : Int) = some (x ++ encN n) := fun n x hn hx => grp_l0 3 n k x (by omega) (by omega) (by omega) (by omega)
 have fin : ∀ q : Nat, q ≤ t.length → tocsinref8_group.f k b (q : Int) = some (b ++ encN q) ∧ tocsinref8_group.f k (b ++ encN q) (wrap64 (v + 1)) = some (b ++ encN q ++ encN (v + 1).toNat) := by
  intro q hq
  have hl := encN_len q (by omega)
  rw [w64 (v + 1) (by omega) (by omega)]
  refine ⟨grp q b (by omega) (by omega), ?_⟩
  have := grp (v + 1).toNat (b ++ encN q) (by omega) (by rw [List.length_append]; omega)
  rw [show (((v + 1).toNat : Nat) : Int) = v + 1 by omega] at this
  exact this
 intro d
 induction d with
 | zero =>
  intro q hq h1
  rw [List.drop_of_length_le (by omega)]
  simp only [runL, Nat.add_zero]
  unfold tocsinref8_PutTrace.l2
  try dsimp only
  rw [w64 ((p : Int) + (q : Int)) (by omega) (by omega), if_neg (by omega), (fin q (by omega)).1, Option.bind_some, if_pos (by omega), if_pos (by omega), hv, (fin q (by omega)).2, Option.bind_some, show (p : Int) + (q : Int) = ((p + q : Nat) : Int) by omega]
 | succ d ih =>
  intro q hq h1
  rw [rd_at t (p + q) (by omega)]
  simp only [runL]
  unfold tocsinref8_PutTrace.l2
  try dsimp only
  rw [w64 ((p : Int) + (q : Int)) (by omega) (by omega), show (p : Int) + (q : Int) = ((p + q : Nat) : Int) by omega, if_pos (by omega), if_pos (by omega), if_pos (by omega), if_pos (by omega), hv]
  by_cases c : rd t ((p + q : Nat) : Int) = v
  ·rw [if_pos c, if_pos c, w64 ((q : Int) + 1) (by omega) (by omega), show (q : Int) + 1 = ((q + 1 : Nat) : Int) by omega]
   have := ih (q + 1) (by omega) (by omega)
   rw [show p + (q + 1) = p + q + 1 by omega] at this
   rw [show k + (runL v (t.drop (p + q + 1)) + 1) = k + runL v (t.drop (p + q + 1)) + 1 by omega, this, show q + 1 + runL v (t.drop (p + q + 1)) = q + (runL v (t.drop (p + q + 1)) + 1) by omega, show p + q + 1 + runL v (t.drop (p + q + 1)) = p + q + (runL v (t.drop (p + q + 1)) + 1) by omega]
  ·rw [if_neg c, if_neg c]
   simp only [Nat.add_zero]
   rw [(fin q (by omega)).1, Option.bind_some, (fin q (by omega)).2, Option.bind_some]
theorem rl1_is (hv : ∀ x ∈ t, -1 ≤ x ∧ x < 200) : ∀ f p k (b : List Int), t.length - p ≤ f → p ≤ t.length → b.length ≤ 4 * p → 50000 + 3 * (t.length - p) ≤ k →
  tocsinref8_PutTrace.l1 k t b p = some (summedL (b ++ body f (t.drop p))) := by
 intro f
 induction f with
 | zero =>
  intro p k b hf hp hb hk
  obtain ⟨k, rfl⟩ : ∃ k', k = k' + 1 := ⟨k - 1, by omega⟩
  unfold tocsinref8_PutTrace.l1
  try dsimp only
  rw [if_neg (by omega), closed_is b (by omega) k (by omega), Option.bind_some]
  simp [body]
 | succ f ih =>
  intro p k b hf hp hb hk
  obtain ⟨k, rfl⟩ : ∃ k', k = k' + 1 := ⟨k - 1, by omega⟩
  unfold tocsinref8_PutTrace.l1
  try dsimp only
  by_cases c : p < t.length
  ·rw [if_pos (by omega)]
   have hm := hv (rd t (p : Int)) (by unfold rd; rw [List.getD_eq_getElem?_getD, List.getElem?_eq_getElem (by omega)]; exact List.getElem_mem _)
   have hr := runL_le (rd t (p : Int)) (t.drop (p + 1))
   rw [List.length_drop] at hr
   have hl1 := rl2_is t ht b (by omega) p c _ rfl hm.1 hm.2 (k - runL (rd t (p : Int)) (t.drop (p + 1)) - 1) (by omega) (t.length - p - 1) 1 (by omega) (Nat.le_refl _)
   rw [show k - runL (rd t (p : Int)) (t.drop (p + 1)) - 1 + runL (rd t (p : Int)) (t.drop (p + 1)) + 1 = k by omega] at hl1
   rw [show ((1 : Nat) : Int) = 1 from rfl] at hl1
   rw [hl1]
   have e1 := encN_len (1 + runL (rd t (p : Int)) (t.drop (p + 1))) (by omega)
   have e2 := encN_len (rd t (p : Int) + 1).toNat (by omega)
   rw [ih _ _ _ (by omega) (by omega) (by simp only [List.length_append]; omega) (by omega), rd_at t p c, body_step, List.drop_drop]
   rw [show runL (rd t (p : Int)) (t.drop (p + 1)) + 1 = 1 + runL (rd t (p : Int)) (t.drop (p + 1)) by omega, List.append_assoc, List.append_assoc]
  ·rw [if_neg (by omega), closed_is b (by omega) k (by omega), Option.bind_some, List.drop_of_length_le (by omega)]
   simp [body]
theorem rl0_is : ∀ d p k, p + d = t.length → 90000 + d < k → (t.take p).all (fun x => decide (-1 ≤ x ∧ x < 200)) = true → tocsinref8_PutTrace.l0 k t p = some (putT t) := by
 intro d
 induction d with
 | zero =>
  intro p k hp hk hm
  obtain ⟨k, rfl⟩ : ∃ k', k = k' + 1 := ⟨k - 1, by omega⟩
  unfold tocsinref8_PutTrace.l0
  try dsimp only
  rw [List.take_of_length_le (by omega)] at hm
  have hmay : mayT t = true := by unfold mayT; rw [hm, decide_eq_true ht]; rfl
  rw [if_neg (by omega)]
  have := rl1_is t ht (mayT_all hmay).1 t.length 0 k [] (by omega) (by omega) (by simp) (by omega)
  rw [List.drop_zero, List.nil_append, Int.natCast_zero] at this
  rw [this]
  unfold putT
  rw [if_pos hmay]
 | succ d ih =>
  intro p k hp hk hm
  obtain ⟨k, rfl⟩ : ∃ k', k = k' + 1 := ⟨k - 1, by omega⟩
  unfold tocsinref8_PutTrace.l0
  try dsimp only
  have hmem : rd t (p : Int) ∈ t := by unfold rd; rw [List.getD_eq_getElem?_getD, List.getElem?_eq_getElem (by omega)]; exact List.getElem_mem _
  have no : ¬ (-1 ≤ rd t (p : Int) ∧ rd t (p : Int) < 200) → putT t = [] := by
   intro hn
   unfold putT
   rw [if_neg]
   intro h
   exact hn ((mayT_all h).1 _ hmem)
  rw [if_pos (by omega), if_pos (by omega), w64 ((p : Int) + 1) (by omega) (by omega), show (p : Int) + 1 = ((p + 1 : Nat) : Int) by omega]
  by_cases h1 : rd t p < -1
  ·rw [if_pos h1, no (by omega)]
  rw [if_neg h1]
  by_cases h2 : rd t p > 199
  ·rw [if_pos h2, no (by omega)]
  rw [if_neg h2]
  refine ih (p + 1) k (by omega) (by omega) ?_
  have e : t.take (p + 1) = t.take p ++ [rd t p] := by
   rw [List.take_succ_eq_append_getElem (by omega)]
   congr 2
   unfold rd
   rw [show ((p : Int).toNat) = p by omega, List.getD_eq_getElem?_getD, List.getElem?_eq_getElem (by omega)]
   rfl
  rw [e, List.all_append, hm, List.all_cons, List.all_nil, decide_eq_true (show -1 ≤ rd t p ∧ rd t p < 200 by omega)]
  rfl
theorem RefPut_is (k : Nat) (hk : 120000 ≤ k) : tocsinref8_PutTrace.f k t = some (putT t) := by
 unfold tocsinref8_PutTrace.f
 rw [if_neg (by omega)]
 exact rl0_is t ht t.length 0 k (by omega) (by omega) rfl
end
theorem own_l0 (l : List S48) (hn : l.length ≤ 1000000) : ∀ d p k (u : List S44), p + d = l.length → d < k → u.length = p → tocsinlaw26_own.l0 k l u p = some (u ++ (l.drop p).map own1) := by
 intro d
 induction d with
 | zero =>
  intro p k u hp hk hu
  obtain ⟨k, rfl⟩ : ∃ k', k = k' + 1 := ⟨k - 1, by omega⟩
  unfold tocsinlaw26_own.l0
  rw [if_neg (by omega), List.drop_of_length_le (by omega), List.map_nil, List.append_nil]
 | succ d ih =>
  intro p k u hp hk hu
  obtain ⟨k, rfl⟩ : ∃ k', k = k' + 1 := ⟨k - 1, by omega⟩
  unfold tocsinlaw26_own.l0
  have hd : l.drop p = rd_T48 l (p : Int) :: l.drop (p + 1) := by
   rw [List.drop_eq_getElem_cons (by omega)]
   congr 1
   unfold rd_T48
   rw [show ((p : Int).toNat) = p by omega, List.getD_eq_getElem?_getD, List.getElem?_eq_getElem (by omega)]; rfl
  rw [hd, if_pos (by omega), if_pos (by omega), if_pos (by omega), w64 ((p : Int) + 1) (by omega) (by omega), show (p : Int) + 1 = ((p + 1 : Nat) : Int) by omega, ih (p + 1) k _ (by omega) (by omega) (by rw [List.length_append]; simp only [List.length_cons, List.length_nil]; omega), List.map_cons, List.append_assoc]
  rfl
theorem own_is (l : List S48) (hn : l.length ≤ 1000000) (k : Nat) (hk : l.length < k) : tocsinlaw26_own.f k l = some (l.map own1) := by
 have := own_l0 l hn l.length 0 k [] (by omega) hk rfl
 rw [List.drop_zero, List.nil_append] at this
 exact this
theorem flat_own : ∀ l : List S48, flatR (l.map own1) = flatJ l
 | [] => rfl
 | x :: l => by
  rw [List.map_cons]
  show encR (own1 x) ++ flatR (l.map own1) = encJ x ++ flatJ l
  rw [flat_own l]
  rfl
theorem put_own (l : List S48) : putR (l.map own1) = putJ l := by
 unfold putR putJ
 rw [all_own, flat_own, List.length_map]

end Go.Proofs.YtpgfecaomdioeaaDoor.PCt
