/- The contract of codec's reader of numbers. -/
import Derived.Test.YtpgfecaomdioeaaDoorPCtx0
import Derived.Deep.RegionHeld3
namespace Go.Proofs.YtpgfecaomdioeaaDoor.PCt
open Go.RowKit Go.Proofs.YtpgfecaomdioeaaDoor.PCt Go.Proofs.YtpgfecaomdioeaaDoorW.PrintWords Go.Proofs.YtpgfecaomdioeaaDoorW.PrintLast Go.Proofs.YtpgfecaomdioeaaDoorW.PrintMore 
set_option linter.unusedVariables false
set_option linter.unusedSimpArgs false

def numL : List Int → Nat → Int → Option (Int × Nat)
  | [], _, _ => none
  | c :: t, i, n => if 5 ≤ i then none else if 128 ≤ c then numL t (i + 1) (n + (c % 128) * 128 ^ i) else
      if (0 < i ∧ c = 0) ∨ 2147483647 < n + (c % 128) * 128 ^ i then none else some (n + (c % 128) * 128 ^ i, i + 1)
def RdrV (W0 : World) (w' : World) (R : Nat) (l : List Int) (bad : Bool) : Prop := ∃ A c, w'.heap[R]? = some (.cells #[.slice A l.length c, .bool bad] 54 (0, 0)) ∧ Kd.C (Kd.int .u8) W0 A l.length l ∧ l.length ≤ c
theorem bit_and_not : ∀ c : Int, 0 ≤ c → c < 256 → Go.bits .andNot .u8 c 128 = c % 128 := by
  intro c h0 h1
  obtain ⟨n, rfl⟩ := Int.eq_ofNat_of_zero_le h0
  have : ∀ m : Fin 256, Go.bits .andNot .u8 ((m.val : Nat) : Int) 128 = ((m.val : Nat) : Int) % 128 := by decide +kernel
  exact this ⟨n, by omega⟩
theorem bit_and : ∀ c : Int, 0 ≤ c → c < 256 → Go.bits .and .u8 c 128 = if 128 ≤ c then 128 else 0 := by
  intro c h0 h1
  obtain ⟨n, rfl⟩ := Int.eq_ofNat_of_zero_le h0
  have : ∀ m : Fin 256, Go.bits .and .u8 ((m.val : Nat) : Int) 128 = if 128 ≤ ((m.val : Nat) : Int) then 128 else 0 := by decide +kernel
  exact this ⟨n, by omega⟩
theorem lt_eq {a b c : Int} (h : a < b) (e : b = c) : a < c := e ▸ h
theorem or_low (s : Nat) (x d : Int) (hs : s ≤ 28) (h0 : 0 ≤ x) (h1 : x < 2 ^ s) (d0 : 0 ≤ d) (d1 : d < 128) : Go.bits .or .i64 x (d * 2 ^ s) = x + d * 2 ^ s := by
  have hw : ∀ n : Int, 0 ≤ n → n < 2 ^ 62 → IntKind.i64.wrap n = n := fun n a b => by rw [IntKind.wrap_i64]; omega
  obtain ⟨a, rfl⟩ := Int.eq_ofNat_of_zero_le h0
  obtain ⟨b, rfl⟩ := Int.eq_ofNat_of_zero_le d0
  have ha : a < 2 ^ s := by exact_mod_cast h1
  have hp : 2 ^ s ≤ 2 ^ 28 := Nat.pow_le_pow_right (by decide) hs
  have hb : b < 128 := by omega
  have hq : b * 2 ^ s < 2 ^ 62 := Nat.lt_of_lt_of_le (Nat.mul_lt_mul_of_lt_of_le hb hp (by decide)) (by decide)
  have hc : ((b : Int) * 2 ^ s) = ((b * 2 ^ s : Nat) : Int) := by simp
  rw [hc, (bits_nat .i64 62 (by decide) hw a (b * 2 ^ s) (by omega) hq).2, Nat.or_comm, Nat.mul_comm, ← Nat.two_pow_add_eq_or_of_lt ha b]
  rw [Int.natCast_add]
  omega
theorem low_set {W0 W : World} {R : Nat} (hB : Below W0.heap.size W0 W) (hg : W0.heap.size ≤ R) (i : Nat) (u : Value) : Below W0.heap.size W0 (W.setCell ⟨R, i, none⟩ u) := by
  refine ⟨hB.os, hB.tape, hB.output, ?_, fun k hk => ?_⟩
  · have := hB.size
    simpa [World.setCell] using this
  · rw [Below.heap_setCell W _ u k (by simp; omega)]
    exact hB.block k hk
theorem keep_set {W w' : World} {R : Nat} (h : KeepBut W w' R none) (i : Nat) (u : Value) : KeepBut W (w'.setCell ⟨R, i, none⟩ u) R none := by
  refine ⟨by have := h.1; simpa [World.setCell] using this, fun k hk hne hr => ?_⟩
  rw [Below.heap_setCell w' _ u k (by simpa using hne)]
  exact h.2 k hk hne hr
theorem end_bad {W0 W : World} {R : Nat} {S : Value} {b : Bool} (BK : W.heap[R]? = some (.cells #[S, .bool b] 54 (0, 0))) (hB : Below W0.heap.size W0 W) (hg : W0.heap.size ≤ R) (n : Nat) :
    RdrV W0 (((W.drewN n).setCell ⟨R, 0, none⟩ (.slice none 0 0)).setCell ⟨R, 1, none⟩ (.bool true)) R [] true ∧ Below W0.heap.size W0 (((W.drewN n).setCell ⟨R, 0, none⟩ (.slice none 0 0)).setCell ⟨R, 1, none⟩ (.bool true)) ∧ KeepBut W (((W.drewN n).setCell ⟨R, 0, none⟩ (.slice none 0 0)).setCell ⟨R, 1, none⟩ (.bool true)) R none :=
  ⟨⟨none, 0, blk_put (blk_put (blk_drewN BK n) 0 _ rfl) 1 _ rfl, Kd.C_nil _ _, Nat.le_refl _⟩, low_set (low_set (pw_below_drewN hB n) hg _ _) hg _ _, keep_set (keep_set ⟨Nat.le_refl _, fun _ _ _ _ => rfl⟩ _ _) _ _⟩
theorem end_ok {W0 W : World} {R : Nat} {S : Value} {b : Bool} (BK : W.heap[R]? = some (.cells #[S, .bool b] 54 (0, 0))) (hB : Below W0.heap.size W0 W) (hg : W0.heap.size ≤ R) (n : Nat) {A : Option Addr} {l : List Int} {c : Nat} (hC : Kd.C (Kd.int .u8) W0 A l.length l) (hc : l.length ≤ c) (k : Nat) (hk : k ≤ l.length) (A' : Option Addr) (hA : A' = if c = k then A else A.map (·.add k)) (m : Nat) (hm : m = l.length - k) (c' : Nat) (hc' : c' = c - k) :
    RdrV W0 ((W.drewN n).setCell ⟨R, 0, none⟩ (.slice A' m c')) R (l.drop k) b ∧ Below W0.heap.size W0 ((W.drewN n).setCell ⟨R, 0, none⟩ (.slice A' m c')) ∧ KeepBut W ((W.drewN n).setCell ⟨R, 0, none⟩ (.slice A' m c')) R none := by
  subst hA hm hc'
  have h1 := Kd.C_drop (c := c) hC hk hc
  rw [show (Kd.int IntKind.u8).sz = 1 from rfl, Nat.mul_one] at h1
  refine ⟨⟨_, c - k, ?_, h1, by rw [List.length_drop]; omega⟩, low_set (pw_below_drewN hB n) hg _ _, keep_set ⟨Nat.le_refl _, fun _ _ _ _ => rfl⟩ _ _⟩
  rw [List.length_drop]
  exact blk_put (blk_drewN BK n) 0 _ rfl
def NumPost (W0 W : World) (R : Nat) (l : List Int) (bad : Bool) (e : Ending) (w' : World) : Prop :=
  (match numL l 0 0 with | none => e = .returned (.int .i64 0) ∧ RdrV W0 w' R [] true | some (x, k) => e = .returned (.int .i64 x) ∧ RdrV W0 w' R (l.drop k) bad) ∧ Below W0.heap.size W0 w' ∧ KeepBut W w' R none
theorem post_bad {W0 W w' : World} {R : Nat} {l : List Int} {bad : Bool} (h : numL l 0 0 = none) (k : RdrV W0 w' R [] true ∧ Below W0.heap.size W0 w' ∧ KeepBut W w' R none) : NumPost W0 W R l bad (.returned (.int .i64 0)) w' := by
  unfold NumPost
  rw [h]
  exact ⟨⟨rfl, k.1⟩, k.2⟩
theorem post_ok {W0 W w' : World} {R : Nat} {l : List Int} {bad : Bool} {x : Int} {n : Nat} (h : numL l 0 0 = some (x, n)) (k : RdrV W0 w' R (l.drop n) bad ∧ Below W0.heap.size W0 w' ∧ KeepBut W w' R none) : NumPost W0 W R l bad (.returned (.int .i64 x)) w' := by
  unfold NumPost
  rw [h]
  exact ⟨⟨rfl, k.1⟩, k.2⟩
theorem numL_five (l : List Int) (x : Int) : numL l 5 x = none := by
  cases l with
  | nil => rfl
  | cons c t => simp [numL]
attribute [local go_sem] max2_int min2_int max_two min_two
set_option maxHeartbeats 16000000 in
set_option maxRecDepth 100000 in
theorem number_c (W0 W : World) (R : Nat) (l : List Int) (bad : Bool) (hR : RdrV W0 W R l bad) (hB : Below W0.heap.size W0 W) (hg : W0.heap.size ≤ R) (hb : ∀ x ∈ l, 0 ≤ x ∧ x < 256) :
    Calls Tryd.prog 22 #[.pointer (some ⟨R, 0, none⟩)] W (NumPost W0 W R l bad) := by
  obtain ⟨A, c, BK, hC, hc⟩ := hR
  have hc0 := (blk_cell BK 0).trans rfl
  have hc1 := (blk_cell BK 1).trans rfl
  have hf0 := blk_frozen BK 0
  have hf1 := blk_frozen BK 1
  have hlen : l.length ≤ 9223372036854775807 := hC.2.1
  have HC := Aside0.mk hC
  have HBK := Aside0.mk BK
  have HB := Aside0.mk hB
  have HG := Aside0.mk hg
  have HL := Aside0.mk hb
  have HCC := Aside0.mk hc
  clear hC BK hB hb
  have HCB := Aside0.mk (Kd.C_below HC.out HB.out)
  by_cases h5 : l.length ≤ 5
  · have hmc : (l.length : Int) ≤ (c : Int) := by omega
    have e1 : ((l.length : Int) ≤ 5) = True := eq_true (by omega)
    have e2 : ((0 : Int) ≤ (l.length : Int)) = True := eq_true (by omega)
    have e3 : ((l.length : Int) < 5) ∨ (l.length : Int) = 5 := by omega
    go_enter Tryd.func22, Tryd.ntmps22
    go_wp2
    go_quiet (fail)
    go_wp2
    clear e1 e2 e3
    go_loop [3, 18] (fun v3 v18 => ∃ (i : Nat) (x iv : Int), v3 = .int .i64 x ∧ v18 = .int .i64 iv ∧ iv = i ∧ i ≤ l.length ∧ Aside0 (0 ≤ x ∧ x < 128 ^ i) ∧ Aside0 (numL l 0 0 = numL (l.drop i) i x)) (fun _ v18 => l.length - (intOf v18).toNat)
    case atStart => exact ⟨0, 0, 0, rfl, rfl, rfl, by omega, ⟨by omega, by decide⟩, ⟨rfl⟩⟩
    case round =>
      obtain ⟨i, x, iv, rfl, rfl, hiv, hi, HX, HN⟩ := hrel
      by_cases hlt : i < l.length
      · have hi5 : i < 5 := by omega
        have hd := HN.out
        rw [show l.drop i = rd l iv :: l.drop (i + 1) by rw [List.drop_eq_getElem_cons (by omega)]; unfold rd; rw [show iv.toNat = i by omega, List.getD_eq_getElem?_getD, List.getElem?_eq_getElem (by omega)]; rfl] at hd
        simp only [numL] at hd
        obtain ⟨ad, rfl, hcell⟩ := Kd.at_int HCB.out iv (by omega) (by omega)
        have hv := HL.out (rd l iv) (by unfold rd; rw [List.getD_eq_getElem?_getD, List.getElem?_eq_getElem (by omega)]; exact List.getElem_mem _)
        generalize rd l iv = cv at hd hv hcell
        rw [if_neg (by omega)] at hd
        have b1 := bit_and_not cv hv.1 hv.2
        have b2 := bit_and cv hv.1 hv.2
        obtain ⟨dv, hdv⟩ : ∃ dv, dv = cv % 128 := ⟨_, rfl⟩
        rw [← hdv] at b1 hd
        have hd0 : 0 ≤ dv ∧ dv < 128 := by omega
        obtain ⟨rfl, rfl⟩ | ⟨rfl, rfl⟩ | ⟨rfl, rfl⟩ | ⟨rfl, rfl⟩ | ⟨rfl, rfl⟩ : (i = 0 ∧ iv = 0) ∨ (i = 1 ∧ iv = 1) ∨ (i = 2 ∧ iv = 2) ∨ (i = 3 ∧ iv = 3) ∨ (i = 4 ∧ iv = 4) := by omega
        all_goals simp [go_sem] at hcell
        · have hx := HX.out
          have hx1 : 0 ≤ x ∧ x < 1 := ⟨hx.1, lt_eq hx.2 (by decide)⟩
          obtain ⟨nv, hnv⟩ : ∃ nv, nv = x + dv := ⟨_, rfl⟩
          have e6 : Go.bits .or .i64 x (dv) = nv := by
            have := or_low 0 x dv (by decide) hx1.1 (lt_eq hx1.2 (by decide)) hd0.1 hd0.2
            rw [show ((2 : Int) ^ 0) = 1 by decide, Int.mul_one] at this
            rw [this, hnv]
          have hnb : 0 ≤ nv ∧ nv < 128 := by omega
          rw [show x + dv * 128 ^ 0 = nv by rw [hnv, show ((128 : Int) ^ 0) = 1 by decide, Int.mul_one]] at hd
          clear hnv hx HX
          by_cases hm : 128 ≤ cv
          · rw [if_pos hm] at b2 hd
            have HD := Aside0.mk hd
            clear hd hdv HN hiv
            go_wp2
            exact ⟨⟨1, nv, 1, rfl, rfl, rfl, by omega, ⟨hnb.1, lt_eq hnb.2 (by decide)⟩, HD⟩, by simp [intOf] <;> omega⟩
          · rw [if_neg hm] at b2 hd
            rw [if_neg (by omega)] at hd
            have HD := Aside0.mk hd
            have z2 : decide (2147483647 < nv) = false := decide_eq_false (by omega)
            clear hd hdv HN hiv
            by_cases hck : c = 1
            · have y1 : (1 : Int) ≤ (l.length : Int) := by omega
              have y2 : (l.length : Int) ≤ (c : Int) := by omega
              have y3 : (1 : Int) ≤ (c : Int) := by omega
              have HK := Aside0.mk hck
              have y4 : ((1 : Int) == (c : Int)) = true := by rw [beq_iff_eq]; omega
              go_wp2
              go_ret
              exact post_ok HD.out (end_ok HBK.out HB.out HG.out _ HC.out HCC.out 1 (by omega) _ (by first | (rw [if_pos HK.out]; done) | (rw [if_pos HK.out]; rfl) | (rw [if_neg HK.out]; done) | (rw [if_neg HK.out]; rfl)) _ (by first | rfl | omega) _ (by first | rfl | omega))
            · have y1 : (1 : Int) ≤ (l.length : Int) := by omega
              have y2 : (l.length : Int) ≤ (c : Int) := by omega
              have y3 : (1 : Int) ≤ (c : Int) := by omega
              have HK := Aside0.mk hck
              have y4 : ((1 : Int) == (c : Int)) = false := by rw [beq_eq_false_iff_ne]; omega
              go_wp2
              go_ret
              exact post_ok HD.out (end_ok HBK.out HB.out HG.out _ HC.out HCC.out 1 (by omega) _ (by first | (rw [if_pos HK.out]; done) | (rw [if_pos HK.out]; rfl) | (rw [if_neg HK.out]; done) | (rw [if_neg HK.out]; rfl)) _ (by first | rfl | omega) _ (by first | rfl | omega))
        · have hx := HX.out
          have hx1 : 0 ≤ x ∧ x < 128 := ⟨hx.1, lt_eq hx.2 (by decide)⟩
          obtain ⟨nv, hnv⟩ : ∃ nv, nv = x + dv * 128 := ⟨_, rfl⟩
          have e6 : Go.bits .or .i64 x (dv * 128) = nv := by
            have := or_low 7 x dv (by decide) hx1.1 (lt_eq hx1.2 (by decide)) hd0.1 hd0.2
            rw [show ((2 : Int) ^ 7) = 128 by decide] at this
            rw [this, hnv]
          have hnb : 0 ≤ nv ∧ nv < 16384 := by omega
          rw [show x + dv * 128 ^ 1 = nv by rw [hnv, show ((128 : Int) ^ 1) = 128 by decide]] at hd
          clear hnv hx HX
          by_cases hm : 128 ≤ cv
          · rw [if_pos hm] at b2 hd
            have HD := Aside0.mk hd
            clear hd hdv HN hiv
            go_wp2
            exact ⟨⟨2, nv, 2, rfl, rfl, rfl, by omega, ⟨hnb.1, lt_eq hnb.2 (by decide)⟩, HD⟩, by simp [intOf] <;> omega⟩
          · rw [if_neg hm] at b2 hd
            by_cases hz : cv = 0
            · rw [if_pos (.inl ⟨by omega, hz⟩)] at hd
              have HD := Aside0.mk hd
              clear hd hdv HN hiv
              have z1 : (cv == 0) = true := beq_iff_eq.mpr hz
              clear hz
              go_wp2
              go_ret
              exact post_bad HD.out (end_bad HBK.out HB.out HG.out _)
            rw [if_neg (by omega)] at hd
            have HD := Aside0.mk hd
            have z1 : (cv == 0) = false := beq_eq_false_iff_ne.mpr hz
            clear hz
            have z2 : decide (2147483647 < nv) = false := decide_eq_false (by omega)
            clear hd hdv HN hiv
            by_cases hck : c = 2
            · have y1 : (2 : Int) ≤ (l.length : Int) := by omega
              have y2 : (l.length : Int) ≤ (c : Int) := by omega
              have y3 : (2 : Int) ≤ (c : Int) := by omega
              have HK := Aside0.mk hck
              have y4 : ((2 : Int) == (c : Int)) = true := by rw [beq_iff_eq]; omega
              go_wp2
              go_ret
              exact post_ok HD.out (end_ok HBK.out HB.out HG.out _ HC.out HCC.out 2 (by omega) _ (by first | (rw [if_pos HK.out]; done) | (rw [if_pos HK.out]; rfl) | (rw [if_neg HK.out]; done) | (rw [if_neg HK.out]; rfl)) _ (by first | rfl | omega) _ (by first | rfl | omega))
            · have y1 : (2 : Int) ≤ (l.length : Int) := by omega
              have y2 : (l.length : Int) ≤ (c : Int) := by omega
              have y3 : (2 : Int) ≤ (c : Int) := by omega
              have HK := Aside0.mk hck
              have y4 : ((2 : Int) == (c : Int)) = false := by rw [beq_eq_false_iff_ne]; omega
              go_wp2
              go_ret
              exact post_ok HD.out (end_ok HBK.out HB.out HG.out _ HC.out HCC.out 2 (by omega) _ (by first | (rw [if_pos HK.out]; done) | (rw [if_pos HK.out]; rfl) | (rw [if_neg HK.out]; done) | (rw [if_neg HK.out]; rfl)) _ (by first | rfl | omega) _ (by first | rfl | omega))
        · have hx := HX.out
          have hx1 : 0 ≤ x ∧ x < 16384 := ⟨hx.1, lt_eq hx.2 (by decide)⟩
          obtain ⟨nv, hnv⟩ : ∃ nv, nv = x + dv * 16384 := ⟨_, rfl⟩
          have e6 : Go.bits .or .i64 x (dv * 16384) = nv := by
            have := or_low 14 x dv (by decide) hx1.1 (lt_eq hx1.2 (by decide)) hd0.1 hd0.2
            rw [show ((2 : Int) ^ 14) = 16384 by decide] at this
            rw [this, hnv]
          have hnb : 0 ≤ nv ∧ nv < 2097152 := by omega
          rw [show x + dv * 128 ^ 2 = nv by rw [hnv, show ((128 : Int) ^ 2) = 16384 by decide]] at hd
          clear hnv hx HX
          by_cases hm : 128 ≤ cv
          · rw [if_pos hm] at b2 hd
            have HD := Aside0.mk hd
            clear hd hdv HN hiv
            go_wp2
            exact ⟨⟨3, nv, 3, rfl, rfl, rfl, by omega, ⟨hnb.1, lt_eq hnb.2 (by decide)⟩, HD⟩, by simp [intOf] <;> omega⟩
          · rw [if_neg hm] at b2 hd
            by_cases hz : cv = 0
            · rw [if_pos (.inl ⟨by omega, hz⟩)] at hd
              have HD := Aside0.mk hd
              clear hd hdv HN hiv
              have z1 : (cv == 0) = true := beq_iff_eq.mpr hz
              clear hz
              go_wp2
              go_ret
              exact post_bad HD.out (end_bad HBK.out HB.out HG.out _)
            rw [if_neg (by omega)] at hd
            have HD := Aside0.mk hd
            have z1 : (cv == 0) = false := beq_eq_false_iff_ne.mpr hz
            clear hz
            have z2 : decide (2147483647 < nv) = false := decide_eq_false (by omega)
            clear hd hdv HN hiv
            by_cases hck : c = 3
            · have y1 : (3 : Int) ≤ (l.length : Int) := by omega
              have y2 : (l.length : Int) ≤ (c : Int) := by omega
              have y3 : (3 : Int) ≤ (c : Int) := by omega
              have HK := Aside0.mk hck
              have y4 : ((3 : Int) == (c : Int)) = true := by rw [beq_iff_eq]; omega
              go_wp2
              go_ret
              exact post_ok HD.out (end_ok HBK.out HB.out HG.out _ HC.out HCC.out 3 (by omega) _ (by first | (rw [if_pos HK.out]; done) | (rw [if_pos HK.out]; rfl) | (rw [if_neg HK.out]; done) | (rw [if_neg HK.out]; rfl)) _ (by first | rfl | omega) _ (by first | rfl | omega))
            · have y1 : (3 : Int) ≤ (l.length : Int) := by omega
              have y2 : (l.length : Int) ≤ (c : Int) := by omega
              have y3 : (3 : Int) ≤ (c : Int) := by omega
              have HK := Aside0.mk hck
              have y4 : ((3 : Int) == (c : Int)) = false := by rw [beq_eq_false_iff_ne]; omega
              go_wp2
              go_ret
              exact post_ok HD.out (end_ok HBK.out HB.out HG.out _ HC.out HCC.out 3 (by omega) _ (by first | (rw [if_pos HK.out]; done) | (rw [if_pos HK.out]; rfl) | (rw [if_neg HK.out]; done) | (rw [if_neg HK.out]; rfl)) _ (by first | rfl | omega) _ (by first | rfl | omega))
        · have hx := HX.out
          have hx1 : 0 ≤ x ∧ x < 2097152 := ⟨hx.1, lt_eq hx.2 (by decide)⟩
          obtain ⟨nv, hnv⟩ : ∃ nv, nv = x + dv * 2097152 := ⟨_, rfl⟩
          have e6 : Go.bits .or .i64 x (dv * 2097152) = nv := by
            have := or_low 21 x dv (by decide) hx1.1 (lt_eq hx1.2 (by decide)) hd0.1 hd0.2
            rw [show ((2 : Int) ^ 21) = 2097152 by decide] at this
            rw [this, hnv]
          have hnb : 0 ≤ nv ∧ nv < 268435456 := by omega
          rw [show x + dv * 128 ^ 3 = nv by rw [hnv, show ((128 : Int) ^ 3) = 2097152 by decide]] at hd
          clear hnv hx HX
          by_cases hm : 128 ≤ cv
          · rw [if_pos hm] at b2 hd
            have HD := Aside0.mk hd
            clear hd hdv HN hiv
            go_wp2
            exact ⟨⟨4, nv, 4, rfl, rfl, rfl, by omega, ⟨hnb.1, lt_eq hnb.2 (by decide)⟩, HD⟩, by simp [intOf] <;> omega⟩
          · rw [if_neg hm] at b2 hd
            by_cases hz : cv = 0
            · rw [if_pos (.inl ⟨by omega, hz⟩)] at hd
              have HD := Aside0.mk hd
              clear hd hdv HN hiv
              have z1 : (cv == 0) = true := beq_iff_eq.mpr hz
              clear hz
              go_wp2
              go_ret
              exact post_bad HD.out (end_bad HBK.out HB.out HG.out _)
            rw [if_neg (by omega)] at hd
            have HD := Aside0.mk hd
            have z1 : (cv == 0) = false := beq_eq_false_iff_ne.mpr hz
            clear hz
            have z2 : decide (2147483647 < nv) = false := decide_eq_false (by omega)
            clear hd hdv HN hiv
            by_cases hck : c = 4
            · have y1 : (4 : Int) ≤ (l.length : Int) := by omega
              have y2 : (l.length : Int) ≤ (c : Int) := by omega
              have y3 : (4 : Int) ≤ (c : Int) := by omega
              have HK := Aside0.mk hck
              have y4 : ((4 : Int) == (c : Int)) = true := by rw [beq_iff_eq]; omega
              go_wp2
              go_ret
              exact post_ok HD.out (end_ok HBK.out HB.out HG.out _ HC.out HCC.out 4 (by omega) _ (by first | (rw [if_pos HK.out]; done) | (rw [if_pos HK.out]; rfl) | (rw [if_neg HK.out]; done) | (rw [if_neg HK.out]; rfl)) _ (by first | rfl | omega) _ (by first | rfl | omega))
            · have y1 : (4 : Int) ≤ (l.length : Int) := by omega
              have y2 : (l.length : Int) ≤ (c : Int) := by omega
              have y3 : (4 : Int) ≤ (c : Int) := by omega
              have HK := Aside0.mk hck
              have y4 : ((4 : Int) == (c : Int)) = false := by rw [beq_eq_false_iff_ne]; omega
              go_wp2
              go_ret
              exact post_ok HD.out (end_ok HBK.out HB.out HG.out _ HC.out HCC.out 4 (by omega) _ (by first | (rw [if_pos HK.out]; done) | (rw [if_pos HK.out]; rfl) | (rw [if_neg HK.out]; done) | (rw [if_neg HK.out]; rfl)) _ (by first | rfl | omega) _ (by first | rfl | omega))
        · have hx := HX.out
          have hx1 : 0 ≤ x ∧ x < 268435456 := ⟨hx.1, lt_eq hx.2 (by decide)⟩
          obtain ⟨nv, hnv⟩ : ∃ nv, nv = x + dv * 268435456 := ⟨_, rfl⟩
          have e6 : Go.bits .or .i64 x (dv * 268435456) = nv := by
            have := or_low 28 x dv (by decide) hx1.1 (lt_eq hx1.2 (by decide)) hd0.1 hd0.2
            rw [show ((2 : Int) ^ 28) = 268435456 by decide] at this
            rw [this, hnv]
          have hnb : 0 ≤ nv ∧ nv < 34359738368 := by omega
          rw [show x + dv * 128 ^ 4 = nv by rw [hnv, show ((128 : Int) ^ 4) = 268435456 by decide]] at hd
          clear hnv hx HX
          by_cases hm : 128 ≤ cv
          · rw [if_pos hm] at b2 hd
            have HD := Aside0.mk hd
            clear hd hdv HN hiv
            go_wp2
            exact ⟨⟨5, nv, 5, rfl, rfl, rfl, by omega, ⟨hnb.1, lt_eq hnb.2 (by decide)⟩, HD⟩, by simp [intOf] <;> omega⟩
          · rw [if_neg hm] at b2 hd
            by_cases hz : cv = 0
            · rw [if_pos (.inl ⟨by omega, hz⟩)] at hd
              have HD := Aside0.mk hd
              clear hd hdv HN hiv
              have z1 : (cv == 0) = true := beq_iff_eq.mpr hz
              clear hz
              go_wp2
              go_ret
              exact post_bad HD.out (end_bad HBK.out HB.out HG.out _)
            by_cases hbig : 2147483647 < nv
            · rw [if_pos (.inr hbig)] at hd
              have HD := Aside0.mk hd
              clear hd hdv HN hiv
              have z1 : (cv == 0) = false := beq_eq_false_iff_ne.mpr hz
              have z2 : decide (2147483647 < nv) = true := decide_eq_true hbig
              clear hz hbig
              go_wp2
              go_ret
              exact post_bad HD.out (end_bad HBK.out HB.out HG.out _)
            rw [if_neg (by omega)] at hd
            have HD := Aside0.mk hd
            have z1 : (cv == 0) = false := beq_eq_false_iff_ne.mpr hz
            clear hz
            have z2 : decide (2147483647 < nv) = false := decide_eq_false (by omega)
            clear hd hdv HN hiv
            by_cases hck : c = 5
            · have y1 : (5 : Int) ≤ (l.length : Int) := by omega
              have y2 : (l.length : Int) ≤ (c : Int) := by omega
              have y3 : (5 : Int) ≤ (c : Int) := by omega
              have HK := Aside0.mk hck
              have y4 : ((5 : Int) == (c : Int)) = true := by rw [beq_iff_eq]; omega
              go_wp2
              go_ret
              exact post_ok HD.out (end_ok HBK.out HB.out HG.out _ HC.out HCC.out 5 (by omega) _ (by first | (rw [if_pos HK.out]; done) | (rw [if_pos HK.out]; rfl) | (rw [if_neg HK.out]; done) | (rw [if_neg HK.out]; rfl)) _ (by first | rfl | omega) _ (by first | rfl | omega))
            · have y1 : (5 : Int) ≤ (l.length : Int) := by omega
              have y2 : (l.length : Int) ≤ (c : Int) := by omega
              have y3 : (5 : Int) ≤ (c : Int) := by omega
              have HK := Aside0.mk hck
              have y4 : ((5 : Int) == (c : Int)) = false := by rw [beq_eq_false_iff_ne]; omega
              go_wp2
              go_ret
              exact post_ok HD.out (end_ok HBK.out HB.out HG.out _ HC.out HCC.out 5 (by omega) _ (by first | (rw [if_pos HK.out]; done) | (rw [if_pos HK.out]; rfl) | (rw [if_neg HK.out]; done) | (rw [if_neg HK.out]; rfl)) _ (by first | rfl | omega) _ (by first | rfl | omega))
      · have he := HN.out
        have hi2 : i = l.length := by omega
        rw [hi2, List.drop_of_length_le (Nat.le_refl _)] at he
        simp only [numL] at he
        have HD := Aside0.mk he
        have y1 : decide (iv < (l.length : Int)) = false := decide_eq_false (by omega)
        clear he HN hiv HX hi2
        go_wp2
        go_ret
        exact post_bad HD.out (end_bad HBK.out HB.out HG.out _)
  · have hmc : (5 : Int) ≤ (c : Int) := by omega
    have e1 : ((l.length : Int) ≤ 5) = False := eq_false (by omega)
    go_enter Tryd.func22, Tryd.ntmps22
    go_wp2
    go_quiet (fail)
    go_wp2
    clear e1
    go_loop [3, 18] (fun v3 v18 => ∃ (i : Nat) (x iv : Int), v3 = .int .i64 x ∧ v18 = .int .i64 iv ∧ iv = i ∧ i ≤ 5 ∧ Aside0 (0 ≤ x ∧ x < 128 ^ i) ∧ Aside0 (numL l 0 0 = numL (l.drop i) i x)) (fun _ v18 => 5 - (intOf v18).toNat)
    case atStart => exact ⟨0, 0, 0, rfl, rfl, rfl, by omega, ⟨by omega, by decide⟩, ⟨rfl⟩⟩
    case round =>
      obtain ⟨i, x, iv, rfl, rfl, hiv, hi, HX, HN⟩ := hrel
      by_cases hlt : i < 5
      · have hi5 : i < 5 := by omega
        have hd := HN.out
        rw [show l.drop i = rd l iv :: l.drop (i + 1) by rw [List.drop_eq_getElem_cons (by omega)]; unfold rd; rw [show iv.toNat = i by omega, List.getD_eq_getElem?_getD, List.getElem?_eq_getElem (by omega)]; rfl] at hd
        simp only [numL] at hd
        obtain ⟨ad, rfl, hcell⟩ := Kd.at_int HCB.out iv (by omega) (by omega)
        have hv := HL.out (rd l iv) (by unfold rd; rw [List.getD_eq_getElem?_getD, List.getElem?_eq_getElem (by omega)]; exact List.getElem_mem _)
        generalize rd l iv = cv at hd hv hcell
        rw [if_neg (by omega)] at hd
        have b1 := bit_and_not cv hv.1 hv.2
        have b2 := bit_and cv hv.1 hv.2
        obtain ⟨dv, hdv⟩ : ∃ dv, dv = cv % 128 := ⟨_, rfl⟩
        rw [← hdv] at b1 hd
        have hd0 : 0 ≤ dv ∧ dv < 128 := by omega
        obtain ⟨rfl, rfl⟩ | ⟨rfl, rfl⟩ | ⟨rfl, rfl⟩ | ⟨rfl, rfl⟩ | ⟨rfl, rfl⟩ : (i = 0 ∧ iv = 0) ∨ (i = 1 ∧ iv = 1) ∨ (i = 2 ∧ iv = 2) ∨ (i = 3 ∧ iv = 3) ∨ (i = 4 ∧ iv = 4) := by omega
        all_goals simp [go_sem] at hcell
        · have hx := HX.out
          have hx1 : 0 ≤ x ∧ x < 1 := ⟨hx.1, lt_eq hx.2 (by decide)⟩
          obtain ⟨nv, hnv⟩ : ∃ nv, nv = x + dv := ⟨_, rfl⟩
          have e6 : Go.bits .or .i64 x (dv) = nv := by
            have := or_low 0 x dv (by decide) hx1.1 (lt_eq hx1.2 (by decide)) hd0.1 hd0.2
            rw [show ((2 : Int) ^ 0) = 1 by decide, Int.mul_one] at this
            rw [this, hnv]
          have hnb : 0 ≤ nv ∧ nv < 128 := by omega
          rw [show x + dv * 128 ^ 0 = nv by rw [hnv, show ((128 : Int) ^ 0) = 1 by decide, Int.mul_one]] at hd
          clear hnv hx HX
          by_cases hm : 128 ≤ cv
          · rw [if_pos hm] at b2 hd
            have HD := Aside0.mk hd
            clear hd hdv HN hiv
            go_wp2
            exact ⟨⟨1, nv, 1, rfl, rfl, rfl, by omega, ⟨hnb.1, lt_eq hnb.2 (by decide)⟩, HD⟩, by simp [intOf] <;> omega⟩
          · rw [if_neg hm] at b2 hd
            rw [if_neg (by omega)] at hd
            have HD := Aside0.mk hd
            have z2 : decide (2147483647 < nv) = false := decide_eq_false (by omega)
            clear hd hdv HN hiv
            by_cases hck : c = 1
            · exact absurd HCC.out (by omega)
            · have y1 : (1 : Int) ≤ (l.length : Int) := by omega
              have y2 : (l.length : Int) ≤ (c : Int) := by omega
              have y3 : (1 : Int) ≤ (c : Int) := by omega
              have HK := Aside0.mk hck
              have y4 : ((1 : Int) == (c : Int)) = false := by rw [beq_eq_false_iff_ne]; omega
              go_wp2
              go_ret
              exact post_ok HD.out (end_ok HBK.out HB.out HG.out _ HC.out HCC.out 1 (by omega) _ (by first | (rw [if_pos HK.out]; done) | (rw [if_pos HK.out]; rfl) | (rw [if_neg HK.out]; done) | (rw [if_neg HK.out]; rfl)) _ (by first | rfl | omega) _ (by first | rfl | omega))
        · have hx := HX.out
          have hx1 : 0 ≤ x ∧ x < 128 := ⟨hx.1, lt_eq hx.2 (by decide)⟩
          obtain ⟨nv, hnv⟩ : ∃ nv, nv = x + dv * 128 := ⟨_, rfl⟩
          have e6 : Go.bits .or .i64 x (dv * 128) = nv := by
            have := or_low 7 x dv (by decide) hx1.1 (lt_eq hx1.2 (by decide)) hd0.1 hd0.2
            rw [show ((2 : Int) ^ 7) = 128 by decide] at this
            rw [this, hnv]
          have hnb : 0 ≤ nv ∧ nv < 16384 := by omega
          rw [show x + dv * 128 ^ 1 = nv by rw [hnv, show ((128 : Int) ^ 1) = 128 by decide]] at hd
          clear hnv hx HX
          by_cases hm : 128 ≤ cv
          · rw [if_pos hm] at b2 hd
            have HD := Aside0.mk hd
            clear hd hdv HN hiv
            go_wp2
            exact ⟨⟨2, nv, 2, rfl, rfl, rfl, by omega, ⟨hnb.1, lt_eq hnb.2 (by decide)⟩, HD⟩, by simp [intOf] <;> omega⟩
          · rw [if_neg hm] at b2 hd
            by_cases hz : cv = 0
            · rw [if_pos (.inl ⟨by omega, hz⟩)] at hd
              have HD := Aside0.mk hd
              clear hd hdv HN hiv
              have z1 : (cv == 0) = true := beq_iff_eq.mpr hz
              clear hz
              go_wp2
              go_ret
              exact post_bad HD.out (end_bad HBK.out HB.out HG.out _)
            rw [if_neg (by omega)] at hd
            have HD := Aside0.mk hd
            have z1 : (cv == 0) = false := beq_eq_false_iff_ne.mpr hz
            clear hz
            have z2 : decide (2147483647 < nv) = false := decide_eq_false (by omega)
            clear hd hdv HN hiv
            by_cases hck : c = 2
            · exact absurd HCC.out (by omega)
            · have y1 : (2 : Int) ≤ (l.length : Int) := by omega
              have y2 : (l.length : Int) ≤ (c : Int) := by omega
              have y3 : (2 : Int) ≤ (c : Int) := by omega
              have HK := Aside0.mk hck
              have y4 : ((2 : Int) == (c : Int)) = false := by rw [beq_eq_false_iff_ne]; omega
              go_wp2
              go_ret
              exact post_ok HD.out (end_ok HBK.out HB.out HG.out _ HC.out HCC.out 2 (by omega) _ (by first | (rw [if_pos HK.out]; done) | (rw [if_pos HK.out]; rfl) | (rw [if_neg HK.out]; done) | (rw [if_neg HK.out]; rfl)) _ (by first | rfl | omega) _ (by first | rfl | omega))
        · have hx := HX.out
          have hx1 : 0 ≤ x ∧ x < 16384 := ⟨hx.1, lt_eq hx.2 (by decide)⟩
          obtain ⟨nv, hnv⟩ : ∃ nv, nv = x + dv * 16384 := ⟨_, rfl⟩
          have e6 : Go.bits .or .i64 x (dv * 16384) = nv := by
            have := or_low 14 x dv (by decide) hx1.1 (lt_eq hx1.2 (by decide)) hd0.1 hd0.2
            rw [show ((2 : Int) ^ 14) = 16384 by decide] at this
            rw [this, hnv]
          have hnb : 0 ≤ nv ∧ nv < 2097152 := by omega
          rw [show x + dv * 128 ^ 2 = nv by rw [hnv, show ((128 : Int) ^ 2) = 16384 by decide]] at hd
          clear hnv hx HX
          by_cases hm : 128 ≤ cv
          · rw [if_pos hm] at b2 hd
            have HD := Aside0.mk hd
            clear hd hdv HN hiv
            go_wp2
            exact ⟨⟨3, nv, 3, rfl, rfl, rfl, by omega, ⟨hnb.1, lt_eq hnb.2 (by decide)⟩, HD⟩, by simp [intOf] <;> omega⟩
          · rw [if_neg hm] at b2 hd
            by_cases hz : cv = 0
            · rw [if_pos (.inl ⟨by omega, hz⟩)] at hd
              have HD := Aside0.mk hd
              clear hd hdv HN hiv
              have z1 : (cv == 0) = true := beq_iff_eq.mpr hz
              clear hz
              go_wp2
              go_ret
              exact post_bad HD.out (end_bad HBK.out HB.out HG.out _)
            rw [if_neg (by omega)] at hd
            have HD := Aside0.mk hd
            have z1 : (cv == 0) = false := beq_eq_false_iff_ne.mpr hz
            clear hz
            have z2 : decide (2147483647 < nv) = false := decide_eq_false (by omega)
            clear hd hdv HN hiv
            by_cases hck : c = 3
            · exact absurd HCC.out (by omega)
            · have y1 : (3 : Int) ≤ (l.length : Int) := by omega
              have y2 : (l.length : Int) ≤ (c : Int) := by omega
              have y3 : (3 : Int) ≤ (c : Int) := by omega
              have HK := Aside0.mk hck
              have y4 : ((3 : Int) == (c : Int)) = false := by rw [beq_eq_false_iff_ne]; omega
              go_wp2
              go_ret
              exact post_ok HD.out (end_ok HBK.out HB.out HG.out _ HC.out HCC.out 3 (by omega) _ (by first | (rw [if_pos HK.out]; done) | (rw [if_pos HK.out]; rfl) | (rw [if_neg HK.out]; done) | (rw [if_neg HK.out]; rfl)) _ (by first | rfl | omega) _ (by first | rfl | omega))
        · have hx := HX.out
          have hx1 : 0 ≤ x ∧ x < 2097152 := ⟨hx.1, lt_eq hx.2 (by decide)⟩
          obtain ⟨nv, hnv⟩ : ∃ nv, nv = x + dv * 2097152 := ⟨_, rfl⟩
          have e6 : Go.bits .or .i64 x (dv * 2097152) = nv := by
            have := or_low 21 x dv (by decide) hx1.1 (lt_eq hx1.2 (by decide)) hd0.1 hd0.2
            rw [show ((2 : Int) ^ 21) = 2097152 by decide] at this
            rw [this, hnv]
          have hnb : 0 ≤ nv ∧ nv < 268435456 := by omega
          rw [show x + dv * 128 ^ 3 = nv by rw [hnv, show ((128 : Int) ^ 3) = 2097152 by decide]] at hd
          clear hnv hx HX
          by_cases hm : 128 ≤ cv
          · rw [if_pos hm] at b2 hd
            have HD := Aside0.mk hd
            clear hd hdv HN hiv
            go_wp2
            exact ⟨⟨4, nv, 4, rfl, rfl, rfl, by omega, ⟨hnb.1, lt_eq hnb.2 (by decide)⟩, HD⟩, by simp [intOf] <;> omega⟩
          · rw [if_neg hm] at b2 hd
            by_cases hz : cv = 0
            · rw [if_pos (.inl ⟨by omega, hz⟩)] at hd
              have HD := Aside0.mk hd
              clear hd hdv HN hiv
              have z1 : (cv == 0) = true := beq_iff_eq.mpr hz
              clear hz
              go_wp2
              go_ret
              exact post_bad HD.out (end_bad HBK.out HB.out HG.out _)
            rw [if_neg (by omega)] at hd
            have HD := Aside0.mk hd
            have z1 : (cv == 0) = false := beq_eq_false_iff_ne.mpr hz
            clear hz
            have z2 : decide (2147483647 < nv) = false := decide_eq_false (by omega)
            clear hd hdv HN hiv
            by_cases hck : c = 4
            · exact absurd HCC.out (by omega)
            · have y1 : (4 : Int) ≤ (l.length : Int) := by omega
              have y2 : (l.length : Int) ≤ (c : Int) := by omega
              have y3 : (4 : Int) ≤ (c : Int) := by omega
              have HK := Aside0.mk hck
              have y4 : ((4 : Int) == (c : Int)) = false := by rw [beq_eq_false_iff_ne]; omega
              go_wp2
              go_ret
              exact post_ok HD.out (end_ok HBK.out HB.out HG.out _ HC.out HCC.out 4 (by omega) _ (by first | (rw [if_pos HK.out]; done) | (rw [if_pos HK.out]; rfl) | (rw [if_neg HK.out]; done) | (rw [if_neg HK.out]; rfl)) _ (by first | rfl | omega) _ (by first | rfl | omega))
        · have hx := HX.out
          have hx1 : 0 ≤ x ∧ x < 268435456 := ⟨hx.1, lt_eq hx.2 (by decide)⟩
          obtain ⟨nv, hnv⟩ : ∃ nv, nv = x + dv * 268435456 := ⟨_, rfl⟩
          have e6 : Go.bits .or .i64 x (dv * 268435456) = nv := by
            have := or_low 28 x dv (by decide) hx1.1 (lt_eq hx1.2 (by decide)) hd0.1 hd0.2
            rw [show ((2 : Int) ^ 28) = 268435456 by decide] at this
            rw [this, hnv]
          have hnb : 0 ≤ nv ∧ nv < 34359738368 := by omega
          rw [show x + dv * 128 ^ 4 = nv by rw [hnv, show ((128 : Int) ^ 4) = 268435456 by decide]] at hd
          clear hnv hx HX
          by_cases hm : 128 ≤ cv
          · rw [if_pos hm] at b2 hd
            have HD := Aside0.mk hd
            clear hd hdv HN hiv
            go_wp2
            exact ⟨⟨5, nv, 5, rfl, rfl, rfl, by omega, ⟨hnb.1, lt_eq hnb.2 (by decide)⟩, HD⟩, by simp [intOf] <;> omega⟩
          · rw [if_neg hm] at b2 hd
            by_cases hz : cv = 0
            · rw [if_pos (.inl ⟨by omega, hz⟩)] at hd
              have HD := Aside0.mk hd
              clear hd hdv HN hiv
              have z1 : (cv == 0) = true := beq_iff_eq.mpr hz
              clear hz
              go_wp2
              go_ret
              exact post_bad HD.out (end_bad HBK.out HB.out HG.out _)
            by_cases hbig : 2147483647 < nv
            · rw [if_pos (.inr hbig)] at hd
              have HD := Aside0.mk hd
              clear hd hdv HN hiv
              have z1 : (cv == 0) = false := beq_eq_false_iff_ne.mpr hz
              have z2 : decide (2147483647 < nv) = true := decide_eq_true hbig
              clear hz hbig
              go_wp2
              go_ret
              exact post_bad HD.out (end_bad HBK.out HB.out HG.out _)
            rw [if_neg (by omega)] at hd
            have HD := Aside0.mk hd
            have z1 : (cv == 0) = false := beq_eq_false_iff_ne.mpr hz
            clear hz
            have z2 : decide (2147483647 < nv) = false := decide_eq_false (by omega)
            clear hd hdv HN hiv
            by_cases hck : c = 5
            · exact absurd HCC.out (by omega)
            · have y1 : (5 : Int) ≤ (l.length : Int) := by omega
              have y2 : (l.length : Int) ≤ (c : Int) := by omega
              have y3 : (5 : Int) ≤ (c : Int) := by omega
              have HK := Aside0.mk hck
              have y4 : ((5 : Int) == (c : Int)) = false := by rw [beq_eq_false_iff_ne]; omega
              go_wp2
              go_ret
              exact post_ok HD.out (end_ok HBK.out HB.out HG.out _ HC.out HCC.out 5 (by omega) _ (by first | (rw [if_pos HK.out]; done) | (rw [if_pos HK.out]; rfl) | (rw [if_neg HK.out]; done) | (rw [if_neg HK.out]; rfl)) _ (by first | rfl | omega) _ (by first | rfl | omega))
      · have he := HN.out
        have hi2 : i = 5 := by omega
        rw [hi2, numL_five] at he
        have HD := Aside0.mk he
        have y1 : decide (iv < 5) = false := decide_eq_false (by omega)
        clear he HN hiv HX hi2
        go_wp2
        go_ret
        exact post_bad HD.out (end_bad HBK.out HB.out HG.out _)

end Go.Proofs.YtpgfecaomdioeaaDoor.PCt
