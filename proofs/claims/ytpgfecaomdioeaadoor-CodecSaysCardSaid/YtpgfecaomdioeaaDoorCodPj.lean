/- codec.PutJobs: what is written, in plain lists; the state of a round on the heap. -/
-- slim
import Derived.Test.YtpgfecaomdioeaaDoorPCtx2
import Derived.Test.YtpgfecaomdioeaaDoorPCtx3
import Derived.Test.YtpgfecaomdioeaaDoorPCtx5
import Derived.Test.YtpgfecaomdioeaaDoorCodB
import Derived.Lib.AppendStr
namespace Go.Proofs.YtpgfecaomdioeaaDoor.PCt
open Go.RowKit Go.Proofs.YtpgfecaomdioeaaDoor.PCt Go.Proofs.YtpgfecaomdioeaaDoorW.PrintWords Go.Proofs.YtpgfecaomdioeaaDoorW.PrintLast Go.Proofs.YtpgfecaomdioeaaDoorW.PrintMore 
set_option linter.unusedVariables false
set_option linter.unusedSimpArgs false

def encI (v : Int) : List Int := encN v.toNat
def encL : List Int → List Int
 | [] => []
 | v :: t => encI v ++ encL t
def fsJ (x : S48) : List Int := [x.f1, x.f2, x.f3, x.f4, x.f5, x.f6]
def numsJ (x : S48) : List Int := encL (fsJ x)
def hardJ (x : S48) : Int := if x.f7 = true then 1 else 0
def encJ (x : S48) : List Int := encI x.f0.size ++ (bytesOf x.f0 ++ (numsJ x ++ [hardJ x]))
def flatJ : List S48 → List Int
 | [] => []
 | x :: t => encJ x ++ flatJ t
def putJ (l : List S48) : List Int := if l.all goodJ = true then summedL (encI l.length ++ flatJ l) else []
theorem encN_len4 (n : Nat) (h : n < 268435456) : (encN n).length ≤ 4 := by
 by_cases h1 : n < 128
 ·rw [encN_small n h1]; simp
 rw [encN_big n h1]
 by_cases h2 : n / 128 < 128
 ·rw [encN_small _ h2]; simp
 rw [encN_big _ h2]
 by_cases h3 : n / 128 / 128 < 128
 ·rw [encN_small _ h3]; simp
 rw [encN_big _ h3, encN_small _ (by omega)]
 simp
theorem numI (v : Int) (h0 : 0 ≤ v) (h1 : v < 268435456) (l : List Int) (hl : l.length < 900000000) : codec_number.f 5 l v = some (l ++ encI v) := by
 have := number_is 5 v.toNat l (by omega) (Nat.le_refl _) hl
 rwa [show ((v.toNat : Nat) : Int) = v by omega] at this
theorem putnum (W wr : World) (S : Nat → Prop) (u : Value) (b : List Int) (v : Int) (h0 : 0 ≤ v) (h1 : v < 268435456) (hl : b.length < 900000000) (hB : Below W.heap.size W wr) (HO : Kd.R (Kd.int .u8) 5 wr W.heap.size S u b) :
  Calls Tryd.prog 26 #[u, .int .i64 v] wr fun e w' => ∃ A c, e = .returned (.slice A (b ++ encI v).length c) ∧ Kd.R (Kd.int .u8) 5 w' W.heap.size (fun _ => True) (.slice A (b ++ encI v).length c) (b ++ encI v) ∧ Below W.heap.size W w' ∧ Kept wr w' S := by
 refine (codec_number.calls 5 S u b v _ W wr hB HO (numI v h0 h1 b hl)).mono ?_
 rintro e w' ⟨v0, rfl, ho, hb, hk⟩
 obtain ⟨A, c, rfl⟩ := Kd.R_slice ho
 exact ⟨A, c, rfl, Kd.R_mono ho (fun _ _ => trivial), hb, hk⟩
theorem infoByte : (Tryd.prog.info? 5).map (fun i => (i.zero, i.size, i.bytes)) = some (some (.int .u8 0), 1, 1) := by kernel_rfl
theorem goodJ_bd {x : S48} (h : goodJ x = true) : (0 ≤ x.f1 ∧ x.f1 ≤ 1000000) ∧ (0 ≤ x.f2 ∧ x.f2 ≤ 1000000) ∧ (0 ≤ x.f3 ∧ x.f3 ≤ 1000000) ∧ (0 ≤ x.f4 ∧ x.f4 ≤ 1000000) ∧ (0 ≤ x.f5 ∧ x.f5 ≤ 1000000) ∧ (0 ≤ x.f6 ∧ x.f6 ≤ 1000000) := by
 unfold goodJ goodJB at h
 rw [Bool.and_eq_true] at h
 have := of_decide_eq_true h.2
 omega
theorem encI_len {v : Int} (h0 : 0 ≤ v) (h1 : v ≤ 1000000) : (encI v).length ≤ 4 := encN_len4 _ (by omega)
theorem numR {W wr : World} {J P : Nat} {b : List Int} {v : Value} {ok : Nat → Prop} {cs cs' : Array Value} {t t' : Nat} (HO : Kd.R (Kd.int .u8) 5 wr W.heap.size ok v b) (BJ : wr.heap[J]? = some (.cells cs t (0, 0))) (BP : wr.heap[P]? = some (.cells cs' t' (0, 0))) (ht : 5 ≠ t) (ht' : 5 ≠ t') : Kd.R (Kd.int .u8) 5 wr W.heap.size (fun k => k ≠ J ∧ k ≠ P) v b :=
 Kd.R_mono (Kd.R_types (Kd.R_types HO BJ (fun q hq => by simp [Kd.int, Kd.scalar] at hq; subst hq; exact ht)) BP (fun q hq => by simp [Kd.int, Kd.scalar] at hq; subst hq; exact ht')) (fun _ hk => ⟨hk.1.2, hk.2⟩)
/-- The bytes so far (v), a job's block (J) and one more block (P). -/
structure PJ (W w : World) (J P : Nat) (cJ cP : Array Value) (tJ tP : Nat) (v : Value) (b : List Int) : Prop where
 ro : Kd.R (Kd.int .u8) 5 w W.heap.size (fun _ => True) v b
 bl : Below W.heap.size W w
 jb : w.heap[J]? = some (.cells cJ tJ (0, 0))
 pb : w.heap[P]? = some (.cells cP tP (0, 0))
variable {W w : World} {J P : Nat} {cJ cP : Array Value} {tJ tP : Nat} {v : Value} {b : List Int}
theorem PJ.num (h : PJ W w J P cJ cP tJ tP v b) (hJ : 5 ≠ tJ) (hP : 5 ≠ tP) (n : Int) (h0 : 0 ≤ n) (h1 : n < 268435456) (hl : b.length < 900000000) (b' : List Int) (hb : b' = b ++ encI n) :
  Calls Tryd.prog 26 #[v, .int .i64 n] w fun e w' => ∃ A c, e = .returned (.slice A b'.length c) ∧ PJ W w' J P cJ cP tJ tP (.slice A b'.length c) b' := by
 subst hb
 refine (putnum W w _ v b n h0 h1 hl h.bl (numR h.ro h.jb h.pb hJ hP)).mono ?_
 rintro e w' ⟨A, c, rfl, ho, hb, hk⟩
 exact ⟨A, c, rfl, ho, hb, blk_kept h.jb hk (by simp), blk_kept h.pb hk (by simp)⟩
theorem grp_l0 : ∀ (d n k : Nat) (l : List Int), n < 128 ^ (d + 1) → n < 4294967296 → d < k → l.length + d < 1000000000 → tocsinref8_group.l0 k l n = some (l ++ encN n) := by
 intro d
 induction d with
 | zero =>
  intro n k l hn hb hk hl
  obtain ⟨k, rfl⟩ : ∃ k', k = k' + 1 := ⟨k - 1, by omega⟩
  unfold tocsinref8_group.l0
  rw [if_neg (by omega), if_pos (by omega), encN_small n (by omega)]
  congr 3
  omega
 | succ d ih =>
  intro n k l hn hb hk hl
  obtain ⟨k, rfl⟩ : ∃ k', k = k' + 1 := ⟨k - 1, by omega⟩
  unfold tocsinref8_group.l0
  by_cases h : n < 128
  ·rw [if_neg (by omega), if_pos (by omega), encN_small n h]
   congr 3
   omega
  ·rw [if_pos (by omega), if_pos (by omega), encN_big n h, Int.tdiv_eq_ediv_of_nonneg (by omega), Int.tmod_eq_emod_of_nonneg (by omega), w64 _ (by omega) (by omega), show ((n : Int) / 128) = ((n / 128 : Nat) : Int) by omega]
   rw [ih (n / 128) k _ (by rw [Nat.div_lt_iff_lt_mul (by decide)]; exact hn) (by omega) (by omega) (by rw [List.length_append]; simp only [List.length_cons, List.length_nil]; omega), List.append_assoc]
   congr 3
   show _ :: _ = _ :: _
   congr 1
   omega
theorem grpI (v : Int) (h0 : 0 ≤ v) (h1 : v < 268435456) (l : List Int) (hl : l.length < 900000000) : tocsinref8_group.f 5 l v = some (l ++ encI v) := by
 have := grp_l0 3 v.toNat 5 l (by omega) (by omega) (by decide) (by omega)
 rw [show ((v.toNat : Nat) : Int) = v by omega] at this
 exact this
theorem PJ.grp (h : PJ W w J P cJ cP tJ tP v b) (hJ : 5 ≠ tJ) (hP : 5 ≠ tP) (n : Int) (h0 : 0 ≤ n) (h1 : n < 268435456) (hl : b.length < 900000000) (b' : List Int) (hb : b' = b ++ encI n) :
  Calls Tryd.prog 33 #[v, .int .i64 n] w fun e w' => ∃ A c, e = .returned (.slice A b'.length c) ∧ PJ W w' J P cJ cP tJ tP (.slice A b'.length c) b' := by
 subst hb
 refine (tocsinref8_group.calls 5 _ v b n _ W w h.bl (numR h.ro h.jb h.pb hJ hP) (grpI n h0 h1 b hl)).mono ?_
 rintro e w' ⟨v0, rfl, ho, hb, hk⟩
 obtain ⟨A, c, rfl⟩ := Kd.R_slice ho
 exact ⟨A, c, rfl, Kd.R_mono ho (fun _ _ => trivial), hb, blk_kept h.jb hk (by simp), blk_kept h.pb hk (by simp)⟩
theorem PJ.drew (h : PJ W w J P cJ cP tJ tP v b) : PJ W w.drew J P cJ cP tJ tP v b := ⟨Kd.R_drew h.ro, below_drew h.bl, h.jb, h.pb⟩
theorem PJ.app (h : PJ W w J P cJ cP tJ tP v b) (hJ : 5 ≠ tJ) (hP : 5 ≠ tP) {w1 : World} {v1 : Value} {b1 : List Int} (ho : Kd.R (Kd.int .u8) 5 w1 W.heap.size (fun _ => True) v1 b1) (hb : Below W.heap.size W w1) (hg : w.grownBy w1 v.ownBlock) : PJ W w1 J P cJ cP tJ tP v1 b1 :=
 ⟨ho, hb, blk_grown h.jb hg (Kd.R_ne h.ro h.jb hJ), blk_grown h.pb hg (Kd.R_ne h.ro h.pb hP)⟩
theorem str_step {ops : Array Oper} {o : Oper} {a : Act} {Q : Exit → Act → World → Prop} {K : Act → World → Prop} (h : PJ W w J P cJ cP tJ tP v b) (hw : Region.wanted o (yielded ops a.tmps) = true) (N : Option Tmp) (hN : o.dst = N) (s x : Operand)
  (ho : o.op = .call { callee := .builtin .append, args := #[s, x], argTypes := #[27, 9] }) (y : ByteArray) (hs : a.eval s = v) (hx : a.eval x = .string y) (hl : b.length + y.size ≤ 140737488355328) (hJ : 5 ≠ tJ) (hP : 5 ≠ tP) (b' : List Int) (hb' : b' = b ++ bytesOf y)
  (k : ∀ A c w1, PJ W w1 J P cJ cP tJ tP (.slice A b'.length c) b' → K (a.put N (.slice A b'.length c)) w1) : if Region.wanted o (yielded ops a.tmps) = true then Oper.wp Tryd.prog o a w K Q else K (a.put N undef) w := by
 subst hb' hN
 rw [if_pos hw]
 obtain ⟨i0, hi, hzz⟩ := Option.map_eq_some_iff.1 infoByte
 simp only [Prod.mk.injEq] at hzz
 obtain ⟨hz0, hz1, hz2⟩ := hzz
 obtain ⟨v', w', hr, h2, h3, h4⟩ := Lib.run_append_own_string (P := Tryd.prog) w W.heap.size 27 9 o.type 5 i0 Tryd.underlying27 Tryd.underlying9 hi hz0 hz1 hz2 v b.length _ (Kd.own_of_R h.ro) y (by simp only [maxLen]; omega) hl (below_size h.bl)
 have hc : encs (Value.int .u8) (b ++ bytesOf y) = encs (Value.int .u8) b ++ Lib.strCells y := by simp [encs, bytesOf, Lib.strCells]
 have hR : Kd.R (Kd.int .u8) 5 w' W.heap.size (fun _ => True) v' (b ++ bytesOf y) := Kd.R_of_own (by rw [hc, List.length_append, bytesOf_length]; exact h2) (fun _ _ => trivial)
 obtain ⟨A, c, rfl⟩ := Kd.R_slice hR
 unfold Oper.wp execOp
 simp only [ho, resolve, invoke, builtin, Sem.run_bind, Sem.run_pure, Result.andThen_ok, List.map_toArray, List.map_cons, List.map_nil, hs, hx, hr]
 exact k A c w' (h.app hJ hP hR (h.bl.grown h3 (below_size h.bl) (own_base (Kd.own_of_R h.ro))) h3)

end Go.Proofs.YtpgfecaomdioeaaDoor.PCt
