/- CodecSays: for all jobs, numbers and bytes, in every world in which the listed tables are as listed: the law returns true. -/
import Derived.Test.YtpgfecaomdioeaaDoorPCtx7
import Derived.Test.YtpgfecaomdioeaaDoorCodSame
import Derived.Deep.Strs
import Derived.Deep.Slices
import Derived.Deep.Fields
import Derived.ChangeArms
import Derived.DataReads
import Derived.PinnedBridge
import Derived.Lib.LaidU8T
import Derived.Lib.LaidRTab
import Derived.Test.YtpgfecaomdioeaaDoorCards
import Derived.Test.YtpgfecaomdioeaaDoorTie
import Derived.LaidMore
import Derived.Stop.Joined
import Derived.SevenTiedAt
import Derived.Lib.LaidTab
import Derived.Lay
import Derived.LaidOnce
import Derived.Test.YtpgfecaomdioeaaDoorRows
import Derived.WalkKit
import Derived.ProofKit
import Derived.OpenShut
import Derived.ShutString
import Derived.ChangeOld
import Derived.Below
import Derived.SizedLaws
import Derived.Carry
import Derived.Lib.SmallJoins
import Derived.Test.YtpgfecaomdioeaaDoorWSized
namespace Go.Proofs.YtpgfecaomdioeaaDoor.Pure
open Go.RowKit Go.Proofs.YtpgfecaomdioeaaDoor.PCt Go.Proofs.YtpgfecaomdioeaaDoorW.PrintWords Go.Proofs.YtpgfecaomdioeaaDoorW.PrintLast Go.Proofs.YtpgfecaomdioeaaDoorW.PrintMore Go.Proofs.YtpgfecaomdioeaaDoor.PCt Go.Shelf Go.Lib
set_option linter.unusedVariables false
set_option linter.unusedSimpArgs false

/-! A slice of structs that came in: the list that it reads as. -/
section
open Go.Deep Go.ChangeShapes Go.WideShapes
variable {H : Type} {enc : TypeId × Value → H} {w : World} {base : Nat} {spare : Nat → Bool} {held : Bool}
theorem kd_row {P : Program} {t e : TypeId} (ht : P.underlying t = some (.slice e)) {sz : Nat} (hC : P.cellsOf e = sz) {α : Type} (d : Kd α) (hd : d.sz = sz) (z : α) (good : α → Prop)
    (hel : ∀ fuel cs x, DataW.trod enc P w base spare held fuel e cs = some x → ∃ y : α, d.K w y cs ∧ cs.length = sz ∧ good y)
    {fuel : Nat} {A : Option Addr} {len cap : Nat} {x : DataW H × List MemPlace} (h : DataW.trod enc P w base spare held fuel t [.slice A len cap] = some x) :
    ∃ l : List α, len = l.length ∧ Kd.C d w A l.length l ∧ l.length ≤ cap ∧ l.length ≤ maxLen ∧ ∀ y ∈ l, good y := by
  rcases open_slice ht h with ⟨h0, _⟩ | ⟨a, len', cap', m, n, D, Pl, hcs, hb, hl, hm, hmm, hx, hi'⟩
  · simp at h0
    obtain ⟨rfl, rfl, rfl⟩ := h0
    exact ⟨[], rfl, ⟨rfl, by simp, fun h => absurd h (by simp)⟩, by simp, by simp, by simp⟩
  · simp at hcs
    obtain ⟨rfl, rfl, rfl⟩ := hcs
    have hmlen : len ≤ m := by rw [hmm]; split <;> omega
    have hall : ∀ i, ∃ y : α, i < len → (∃ cs : List Value, cs.length = sz ∧ d.K w y cs ∧ ∀ j u, cs[j]? = some u → w.cell? (a.add (i * sz + j)) = some u) ∧ good y := by
      intro i
      by_cases hlt : i < len
      · obtain ⟨cs', hc, htr⟩ := hi' i (by omega)
        obtain ⟨y, hK, hl', hg⟩ := hel _ _ _ htr
        rw [hC] at hc
        obtain ⟨_, _, hat⟩ := World.cells?_some hc
        refine ⟨y, fun _ => ⟨⟨cs', hl', hK, fun j u hj => ?_⟩, hg⟩⟩
        have hjl : j < sz := by
          have := (List.getElem?_eq_some_iff.1 hj).1
          omega
        have := hat j hjl
        rw [Go.Deep.add_add] at this
        rw [this]; exact hj
      · exact ⟨z, fun h => absurd h hlt⟩
    refine ⟨(List.range len).map fun i => Classical.choose (hall i), by simp, ?_, by simp; omega, by simp; exact Nat.le_trans hl hm, ?_⟩
    · refine ⟨rfl, by simp; exact Nat.le_trans (Nat.le_trans hl hm) (by unfold maxLen; omega), fun _ => ⟨a, rfl, fun j p hj => ?_⟩⟩
      rw [List.getElem?_map] at hj
      have hjl : j < len := by
        by_cases g : j < len
        · exact g
        · rw [List.getElem?_eq_none (by simp; omega)] at hj; simp at hj
      rw [List.getElem?_eq_getElem (by simpa using hjl)] at hj
      simp at hj
      subst hj
      obtain ⟨cs, hl', hK, hcs⟩ := (Classical.choose_spec (hall j) hjl).1
      refine ⟨cs, by rw [hd]; exact hl', hK, fun i u hu => ?_⟩
      rw [hd]
      exact hcs i u hu
    · intro y hy
      obtain ⟨i, hi2, rfl⟩ := List.mem_map.1 hy
      exact (Classical.choose_spec (hall i) (by simpa using hi2)).2
theorem trod_str {P : Program} {t : TypeId} (ht : P.underlying t = some .string) {fuel : Nat} {cs : List Value} {x : DataW H × List MemPlace} (h : DataW.trod enc P w base spare held fuel t cs = some x) : ∃ s : ByteArray, cs = [.string s] := by
  cases fuel with
  | zero => simp [DataW.trod] at h
  | succ n =>
    unfold DataW.trod at h
    rw [ht] at h
    split at h <;> simp_all
theorem trod_boo {P : Program} {t : TypeId} (ht : P.underlying t = some .bool) {fuel : Nat} {cs : List Value} {x : DataW H × List MemPlace} (h : DataW.trod enc P w base spare held fuel t cs = some x) : ∃ b : Bool, cs = [.bool b] := by
  cases fuel with
  | zero => simp [DataW.trod] at h
  | succ n =>
    unfold DataW.trod at h
    rw [ht] at h
    split at h <;> simp_all
theorem trod_field {P : Program} {fs : Array Field} {t : TypeId} (ht : P.underlying t = some (.struct fs)) (hone : oneCellFields P fs = true) {fuel : Nat} {cs : List Value} {x : DataW H × List MemPlace} (h : DataW.trod enc P w base spare held fuel t cs = some x)
    (i : Nat) (f : Field) (hf : fs[i]? = some f) : ∃ n y, DataW.trod enc P w base spare held n f.type ((cs.drop i).take 1) = some y := by
  obtain ⟨xs, n, _, _, hl, hlen, hf'⟩ := DataW.trod_struct ht h
  obtain ⟨o0, k0⟩ := hone_of hone i f hf
  have h1 := hf' i f hf
  rw [o0, k0] at h1
  have hi : i < xs.length := by
    rw [hlen]
    exact (Array.getElem?_eq_some_iff.1 hf).1
  rw [List.getElem?_eq_getElem hi] at h1
  exact ⟨n, _, h1⟩
theorem trod_size {P : Program} {fs : Array Field} {t : TypeId} (ht : P.underlying t = some (.struct fs)) {fuel : Nat} {cs : List Value} {x : DataW H × List MemPlace} (h : DataW.trod enc P w base spare held fuel t cs = some x) : cs.length = P.cellsOf t := by
  obtain ⟨xs, n, _, _, hl, _⟩ := DataW.trod_struct ht h
  exact hl
end


def heavyB (l : List S48) : Bool := decide ((l.length : Int) > 20) || l.any fun t => decide (100 < t.f0.size)
theorem dropJ (l : List S48) (p : Nat) (h : p < l.length) : l.drop p = rd_T48 l (p : Int) :: l.drop (p + 1) := by
  rw [List.drop_eq_getElem_cons h]
  unfold rd_T48
  rw [show ((p : Int).toNat) = p by omega, List.getD_eq_getElem?_getD, List.getElem?_eq_getElem h]
  rfl
theorem heavy_l0 (l : List S48) (hn : l.length ≤ 1000000) : ∀ d p k, p + d = l.length → d < k →
    tocsinlaw26_heavy.l0 k l 10000 p = some ((l.drop p).any fun t => decide (100 < t.f0.size)) := by
  intro d
  induction d with
  | zero =>
    intro p k hp hk
    obtain ⟨k, rfl⟩ : ∃ k', k = k' + 1 := ⟨k - 1, by omega⟩
    unfold tocsinlaw26_heavy.l0
    rw [if_neg (by omega), List.drop_of_length_le (by omega)]
    rfl
  | succ d ih =>
    intro p k hp hk
    obtain ⟨k, rfl⟩ : ∃ k', k = k' + 1 := ⟨k - 1, by omega⟩
    unfold tocsinlaw26_heavy.l0
    rw [dropJ l p (by omega), if_pos (by omega), if_pos (by omega), List.any_cons, w64 ((p : Int) + 1) (by omega) (by omega), show (p : Int) + 1 = ((p + 1 : Nat) : Int) by omega]
    by_cases c : 100 < (rd_T48 l p).f0.size
    · rw [if_pos (by omega), decide_eq_true c]; rfl
    rw [if_neg (by omega), decide_eq_false c, Bool.false_or]
    by_cases c2 : (rd_T48 l p).f2 > 10000
    · rw [if_pos c2, if_neg (by omega)]
      exact ih (p + 1) k (by omega) (by omega)
    · rw [if_neg c2]
      exact ih (p + 1) k (by omega) (by omega)
theorem heavy_is (l : List S48) (k : Nat) (hk : 1001 < k) : tocsinlaw26_heavy.f k l 20 10000 = some (heavyB l) := by
  unfold tocsinlaw26_heavy.f heavyB
  by_cases c : (l.length : Int) > 20
  · rw [if_pos c, decide_eq_true c]; rfl
  · rw [if_neg c, decide_eq_false c]
    exact heavy_l0 l (by omega) l.length 0 k (by omega) (by omega)
theorem heavy_no {l : List S48} (h : heavyB l = false) : l.length ≤ 20 ∧ ∀ t ∈ l, t.f0.size ≤ 100 := by
  unfold heavyB at h
  rw [Bool.or_eq_false_iff, decide_eq_false_iff_not, List.any_eq_false] at h
  refine ⟨by omega, fun t ht => ?_⟩
  have := h.2 t ht
  rw [decide_eq_true_iff] at this
  omega
theorem get_any (l : List Int) (hl : l.length ≤ 1000000) (hb : isB l) : codec_GetJobs.f l = some (readJ l (wbT l)) := by
  unfold codec_GetJobs.f
  rw [if_pos ⟨hl, byteL_of hb⟩]
theorem rget_any (l : List Int) (hl : l.length ≤ 1000000) (hb : isB l) : tocsinref8_GetJobs.f l = some (readF l) := by
  unfold tocsinref8_GetJobs.f
  rw [if_pos ⟨hl, byteL_of hb⟩]
theorem put_any (l : List S48) (hl : l.length ≤ 20) (hs : ∀ t ∈ l, t.f0.size ≤ 100) : codec_PutJobs.f l = some (putJ l) := by
  unfold codec_PutJobs.f
  rw [if_pos ⟨by omega, List.all_eq_true.2 fun x hx => decide_eq_true (by have := hs x hx; omega)⟩]
theorem wf_u8 {a : Int} (h : (Lit.int .u8 a).wf = true) : 0 ≤ a ∧ a < 256 := by
  simp [Lit.wf, IntKind.min, IntKind.max, IntKind.signed, IntKind.bits] at h
  omega
theorem tget_any (l : List Int) (hl : l.length ≤ 1000000) (hb : isB l) : codec_GetTrace.f l = some (readT l) := by
  unfold codec_GetTrace.f
  rw [if_pos ⟨hl, byteL_of hb⟩]
theorem rtget_any (l : List Int) (hl : l.length ≤ 1000000) (hb : isB l) : tocsinref8_GetTrace.f l = some (readRT l) := by
  unfold tocsinref8_GetTrace.f
  rw [if_pos ⟨hl, byteL_of hb⟩]
theorem rput_any (l : List S48) (hl : l.length ≤ 20) (hs : ∀ t ∈ l, t.f0.size ≤ 100) : tocsinref8_PutJobs.f (l.map own1) = some (putJ l) := by
  unfold tocsinref8_PutJobs.f
  rw [if_pos ⟨by rw [List.length_map]; omega, List.all_eq_true.2 fun x hx => decide_eq_true (by
    obtain ⟨y, hy, rfl⟩ := List.mem_map.1 hx
    have := hs y hy
    show y.f0.size ≤ 1000
    omega)⟩, put_own]
theorem readRT_len (l : List Int) (hb : isB l) : (readRT l).1.length ≤ 10000 := by
  unfold readRT
  split
  · exact Nat.zero_le _
  · cases hq : refT (openL l).1.length (openL l).1 (-2) [] with
    | none => exact Nat.zero_le _
    | some t =>
      obtain ⟨_, _, _, h, _⟩ := refT_inv _ _ _ _ t (fun c hc => hb c (openL_mem l c hc)) (by decide) (Nat.le_refl _) hq
      exact h
theorem jobsL_len : ∀ (n : Nat) (l : List Int) (b : Bool) (t : List S48), (jobsL n l b t).1.length = t.length + n
  | 0, _, _, _ => rfl
  | n + 1, l, b, t => by
    show (jobsL n _ _ (t ++ [_])).1.length = _
    rw [jobsL_len n, List.length_append]
    simp only [List.length_cons, List.length_nil]
    omega
theorem readJ_len (l : List Int) (wb : Bool) : (readJ l wb).1.length ≤ 200 := by
  unfold readJ
  split
  · exact Nat.zero_le _
  split
  · exact Nat.zero_le _
  split
  · exact Nat.zero_le _
  · have := jobsL_len (nV (restJ l)).toNat (nR (restJ l)) (nB (restJ l) false) []
    unfold endJ
    split
    · exact Nat.zero_le _
    split
    · exact Nat.zero_le _
    split
    · show (afterJ l).1.length ≤ 200
      unfold afterJ
      rw [this]
      simp only [List.length_nil]
      omega
    · exact Nat.zero_le _
section
variable (l : List S48) (hn : l.length ≤ 20) (hs : ∀ t ∈ l, t.f0.size ≤ 100) (t b : List Int) (ht : t.length ≤ 300) (hb : isB b) (hbl : b.length ≤ 600)
include hn hs ht hbl
theorem loop0 (y : List S44) (hy : y.length ≤ 1000) : ∀ d p k, p + d = y.length → 150000 + d < k → tocsinlaw26_CodecSays.l0 k l t b y y p = some true := by
  intro d
  induction d with
  | zero =>
    intro p k hp hk
    obtain ⟨k, rfl⟩ : ∃ k', k = k' + 1 := ⟨k - 1, by omega⟩
    unfold tocsinlaw26_CodecSays.l0
    try dsimp only
    rw [if_neg (by omega), put_any l hn hs, Option.bind_some, own_is l (by omega) k (by omega), Option.bind_some, rput_any l hn hs, Option.bind_some]
    rw [if_pos rfl, PutTrace_is t (by omega) k (by omega), Option.bind_some, RefPut_is t (by omega) k (by omega), Option.bind_some]
    rw [if_pos rfl, Sum_is b (by omega) k (by omega), Option.bind_some, CodeSum_is b (by omega) k (by omega), Option.bind_some, beq_self_eq_true]
  | succ d ih =>
    intro p k hp hk
    obtain ⟨k, rfl⟩ : ∃ k', k = k' + 1 := ⟨k - 1, by omega⟩
    unfold tocsinlaw26_CodecSays.l0
    try dsimp only
    rw [if_pos (by omega), if_pos (by omega), if_pos (by omega), if_neg (by simp), w64 ((p : Int) + 1) (by omega) (by omega), show (p : Int) + 1 = ((p + 1 : Nat) : Int) by omega]
    exact ih (p + 1) k (by omega) (by omega)
theorem end1 (x : List S48) (y : List S44) (hxy : y = x.map own1) (hx : x.length ≤ 200) (k : Nat) (hk : 151000 < k) : tocsinlaw26_CodecSays.j1 k l t b x y ((x.length : Int) != (y.length : Int)) = some true := by
  subst hxy
  rw [List.length_map, show ((x.length : Int) != (x.length : Int)) = false by simp]
  obtain ⟨k, rfl⟩ : ∃ k', k = k' + 1 := ⟨k - 1, by omega⟩
  unfold tocsinlaw26_CodecSays.j1
  try dsimp only
  rw [if_neg (by decide), own_is x (by omega) k (by omega), Option.bind_some]
  exact loop0 l hn hs t b ht hbl (x.map own1) (by rw [List.length_map]; omega) _ 0 k (Nat.zero_add _) (by rw [List.length_map]; omega)
include hb
theorem main0 (k : Nat) (hk : 160000 < k) : tocsinlaw26_CodecSays.j0 k l t b false = some true := by
  obtain ⟨k, rfl⟩ : ∃ k', k = k' + 1 := ⟨k - 1, by omega⟩
  unfold tocsinlaw26_CodecSays.j0
  try dsimp only
  have hJ := read_same b hb (by omega)
  have hT := trace_same b hb
  have hjl := readJ_len b (wbT b)
  have htl := readRT_len b hb
  rw [if_neg (by decide), get_any b (by omega) hb, Option.bind_some, rget_any b (by omega) hb, Option.bind_some, tget_any b (by omega) hb, Option.bind_some, rtget_any b (by omega) hb, Option.bind_some]
  have eI : tocsinlaw26_ints.f k (readRT b).1 (readRT b).1 = some true := by rw [ints_is _ _ (by omega) k (by omega), decide_eq_true rfl]
  have E := end1 l hn hs t b ht hbl
  generalize readJ b (wbT b) = X at *
  generalize readF b = Y at *
  generalize readT b = P at *
  generalize readRT b = Q at *
  obtain ⟨x, e⟩ := X
  obtain ⟨y, ok⟩ := Y
  obtain ⟨p, f⟩ := P
  obtain ⟨q, yes⟩ := Q
  rcases hJ with ⟨j1, j2, j3⟩ | ⟨j1, j2⟩ <;> rcases hT with ⟨t1, t2⟩ | ⟨t1, t2⟩
  · simp only at j1 j2 j3 t1
    injection t2 with t2 t3
    subst j1 j2 t1 t2 t3
    dsimp only
    rw [if_neg (by decide), if_pos rfl, if_neg (by decide), if_pos rfl, eI, Option.bind_some, if_pos rfl]
    exact E x y j3 hjl k (by omega)
  · simp only at j1 j2 j3
    injection t1 with t1 t1'
    injection t2 with t2 t2'
    subst j1 j2 t1 t2 t1' t2'
    dsimp only
    rw [if_neg (by decide), if_pos rfl, if_neg (by decide), if_neg (by decide), if_pos rfl, eI, Option.bind_some, if_pos rfl]
    exact E x y j3 hjl k (by omega)
  · simp only at t1
    injection j1 with j1 j1'
    injection j2 with j2 j2'
    injection t2 with t2 t3
    subst j1 j1' j2 j2' t1 t2 t3
    dsimp only
    rw [if_neg (by decide), if_neg (by decide), if_pos rfl, if_neg (by decide), if_pos rfl, eI, Option.bind_some, if_pos rfl]
    exact E [] [] rfl hjl k (by omega)
  · injection j1 with j1 j1'
    injection j2 with j2 j2'
    injection t1 with t1 t1'
    injection t2 with t2 t2'
    subst j1 j1' j2 j2' t1 t1' t2 t2'
    rw [if_neg (by decide), if_neg (by decide), if_pos rfl, if_neg (by decide), if_neg (by decide), if_pos rfl, eI, Option.bind_some, if_pos rfl]
    exact E [] [] rfl hjl k (by omega)
end
theorem law (l : List S48) (t b : List Int) (hb : ∀ n ∈ b, 0 ≤ n ∧ n < 256) (k : Nat) (hk : 170000 ≤ k) : tocsinlaw26_CodecSays.f k l t b = some true := by
  unfold tocsinlaw26_CodecSays.f
  obtain ⟨k, rfl⟩ : ∃ k', k = k' + 1 := ⟨k - 1, by omega⟩
  have yes : tocsinlaw26_CodecSays.j0 (k + 1) l t b true = some true := by
    unfold tocsinlaw26_CodecSays.j0
    try dsimp only
    rw [if_pos rfl]
  rw [show tocsinlaw26_awake.f = some true from rfl, Option.bind_some, if_pos rfl, heavy_is l _ (by omega), Option.bind_some]
  cases hh : heavyB l
  · obtain ⟨hn, hs⟩ := heavy_no hh
    rw [if_neg (by decide)]
    by_cases c : (t.length : Int) > 300
    · rw [if_pos c, yes]
    rw [if_neg c]
    by_cases c2 : (b.length : Int) > 600
    · rw [decide_eq_true c2, yes]
    · rw [decide_eq_false c2]
      exact main0 l hn hs t b (by omega) hb (by omega) (k + 1) (by omega)
  · rw [if_pos rfl, yes]
def IsRow (k : IntKind) (w : World) (a : Option Addr) (len cap : Nat) (zs : List Int) : Prop :=
  (a = none ∧ len = 0 ∧ cap = 0 ∧ zs = []) ∨
  ∃ x, a = some x ∧ len ≤ cap ∧ cap ≤ maxLen ∧ zs.length = cap ∧ (∀ i, i < zs.length → w.cell? (x.add i) = some (.int k (zs.getD i 0))) ∧ ∀ n ∈ zs, (Lit.int k n).wf = true
theorem el48 {H : Type} {enc : TypeId × Value → H} {w : World} {base : Nat} {spare : Nat → Bool} {held : Bool} : ∀ fuel cs x, DataW.trod enc Tryd.prog w base spare held fuel 48 cs = some x → ∃ y : S48, k48.K w y cs ∧ cs.length = 8 ∧ ((Lit.int .i64 y.f1).wf = true ∧ (Lit.int .i64 y.f2).wf = true ∧ (Lit.int .i64 y.f3).wf = true ∧ (Lit.int .i64 y.f4).wf = true ∧ (Lit.int .i64 y.f5).wf = true ∧ (Lit.int .i64 y.f6).wf = true) := by
  intro fuel cs x h
  have hl := trod_size Tryd.underlying48 h
  rw [show Tryd.prog.cellsOf 48 = 8 by kernel_rfl] at hl
  obtain ⟨n0, y0, h0⟩ := trod_field Tryd.underlying48 (by kernel_rfl) h 0 _ rfl
  obtain ⟨n1, y1, h1⟩ := trod_field Tryd.underlying48 (by kernel_rfl) h 1 _ rfl
  obtain ⟨n2, y2, h2⟩ := trod_field Tryd.underlying48 (by kernel_rfl) h 2 _ rfl
  obtain ⟨n3, y3, h3⟩ := trod_field Tryd.underlying48 (by kernel_rfl) h 3 _ rfl
  obtain ⟨n4, y4, h4⟩ := trod_field Tryd.underlying48 (by kernel_rfl) h 4 _ rfl
  obtain ⟨n5, y5, h5⟩ := trod_field Tryd.underlying48 (by kernel_rfl) h 5 _ rfl
  obtain ⟨n6, y6, h6⟩ := trod_field Tryd.underlying48 (by kernel_rfl) h 6 _ rfl
  obtain ⟨n7, y7, h7⟩ := trod_field Tryd.underlying48 (by kernel_rfl) h 7 _ rfl
  match cs, hl with
  | [u0, u1, u2, u3, u4, u5, u6, u7], _ =>
    obtain ⟨a0, e0⟩ := trod_str Tryd.underlying9 h0
    obtain ⟨a1, e1, _, w1⟩ := DataW.trod_int Tryd.underlying3 h1
    obtain ⟨a2, e2, _, w2⟩ := DataW.trod_int Tryd.underlying3 h2
    obtain ⟨a3, e3, _, w3⟩ := DataW.trod_int Tryd.underlying3 h3
    obtain ⟨a4, e4, _, w4⟩ := DataW.trod_int Tryd.underlying3 h4
    obtain ⟨a5, e5, _, w5⟩ := DataW.trod_int Tryd.underlying3 h5
    obtain ⟨a6, e6, _, w6⟩ := DataW.trod_int Tryd.underlying3 h6
    obtain ⟨a7, e7⟩ := trod_boo Tryd.underlying4 h7
    simp at e0 e1 e2 e3 e4 e5 e6 e7
    subst e0 e1 e2 e3 e4 e5 e6 e7
    exact ⟨⟨a0, a1, a2, a3, a4, a5, a6, a7⟩, k48_mk w _, rfl, w1, w2, w3, w4, w5, w6⟩
theorem own : ownKnob Tryd.prog.godebug = none := by kernel_rfl
theorem Tryd.laidOut : laidOutB Tryd.prog = true := by kernel_rfl
open Go.ChangeShapes Go.WideShapes Go.ChangeAt Go.RowKit
open Go.ChangeMaps (open_string shut_string)
abbrev laidL : List (String × DataW Unit) := [("unicode/utf8.acceptRanges", Rows.laid_unicode_utf8_acceptRanges), ("unicode.properties", Rows.laid_unicode_properties), ("unicode.Letter", Rows.laid_unicode_Letter), ("unicode/utf8.first", Rows.laid_unicode_utf8_first)]
theorem xL : RExtra Tryd.prog Tryd.lays200_ren := ⟨by kernel_rfl, by kernel_rfl, by kernel_rfl, by kernel_rfl, by kernel_rfl, by kernel_rfl, by kernel_rfl, by kernel_rfl⟩
theorem xU : U8Extra Tryd.prog Tryd.lays196_ren := by constructor <;> kernel_rfl
set_option maxRecDepth 1000000 in
theorem tab_of_laid {W : World} (h : laidMetH Tryd.prog laidL W) : Tab W := by
  rw [MakeChecks.laidMetH_plain _ _ _ (by kernel_rfl)] at h
  have r1 : VarReads Tryd.prog W "unicode.properties" Rows.laid_unicode_properties := Lib.laidMet.reads h (.tail _ (.head _))
  have r2 : VarReads Tryd.prog W "unicode.Letter" (rtabData letterT) := Pinned.letter_eq ▸ Lib.laidMet.reads h (.tail _ (.tail _ (.head _)))
  have r3 : VarReads Tryd.prog W "unicode/utf8.first" firstData := Pinned.utf8First_eq ▸ Lib.laidMet.reads h (.tail _ (.tail _ (.tail _ (.head _))))
  have r4 : VarReads Tryd.prog W "unicode/utf8.acceptRanges" acceptData := (show Rows.laid_unicode_utf8_acceptRanges = (acceptData : DataW Unit) by kernel_rfl) ▸ Lib.laidMet.reads h (.head _)
  refine ⟨?_, rvar_of_reads { Tryd.lays200 with } xL (by kernel_rfl) (by kernel_rfl) r2, utf8Tabs_of_readsT (U8Types.of196 Tryd.lays196) xU r3 r4⟩
  obtain ⟨g, t, cs, fuel, p, hg, hty, hvar, hd⟩ := r1
  obtain rfl := Option.some.inj ((show Tryd.prog.globalNamed "unicode.properties" = some (Tryd.lays200_ren.g 7) by kernel_rfl).symm.trans hg)
  obtain rfl := Option.some.inj ((show (Tryd.prog.globals[Tryd.lays200_ren.g 7]?).map (·.type) = some 79 by kernel_rfl).symm.trans hty)
  unfold Lib.TabIs
  rw [hvar, ← Lib.cells_of_tab (n := 256) (e := 5) Tryd.underlying79 Tryd.underlying5 (by kernel_rfl) (by kernel_rfl) hd]
set_option maxRecDepth 100000 in
theorem lifted (os : Os) (started : os.Started) (H : Type) (enc : TypeId × Value → H) :
    ReturnsInHanded {} Tryd.checked os 4 .any (fun w args => (Rows.codecSaysSpec.pre enc Tryd.prog Tryd.f4 Rows.codecSaysRow.domain false w args ∧ laidMetH Tryd.prog laidL w) ∧ sizedMet enc Tryd.prog Tryd.f4 (OpenSpec.ofChange Rows.codecSaysSpec) false w args) (Rows.codecSaysSpec.post enc Tryd.prog Tryd.f4 false true false false) := by
  refine returnsInHanded_of_change_and (C := Tryd.checked) (X := fun w _ => laidMetH Tryd.prog laidL w) (fun _ _ _ hh h => h.of_heap hh) own started (by kernel_rfl) Tryd.func4
    (ChangeSpec.witness_shaped (enc := enc) (C := Tryd.checked) (os := os) (X := fun w _ => laidMetH Tryd.prog laidL w) false (World.laidAll Tryd.prog os laidL) #[.slice none 0 0, .slice none 0 0, .slice none 0 0] 8 (World.laidAll_os _ _ _)
      (World.shaped_of_ZipB (by kernel_rfl) (by kernel_rfl)) (by kernel_rfl) (by kernel_rfl) (by kernel_rfl) (by rw [MakeChecks.laidMetH_plain _ _ _ (by kernel_rfl)]; exact laidMet_laidAll _ (by kernel_rfl) (by kernel_rfl))) ?_
  intro W base args ds gs before hval0 hW hcnd hsz0 hL _
  have hTb := tab_of_laid hL
  have hsz : (DataW.weightsEach Tryd.prog (Tryd.f4.params.toList ++ Rows.codecSaysSpec.plain.varTypes Tryd.prog) (ds ++ gs)).all (· ≤ reachBytes) = true := hsz0
  have hval : ∀ (j : Nat) t v, Tryd.f4.params[j]? = some t → args[j]? = some v → Value.okWide Tryd.prog W .any base t v := hval0
  have hW' := hW
  obtain ⟨p, q, hA0, hV, rfl, hfz, hnd⟩ := hW
  have hA : DataW.TrodAll enc Tryd.prog W 0 (fun _ => true) true Tryd.f4.params.toList args.toList ds p := hA0
  rw [Tryd.params4] at hA hval hsz
  obtain ⟨v0, vs0, d0, ds0, p0, q0, hargs, rfl, rfl, h0, r0⟩ := trodAll_cons hA
  obtain ⟨v1, vs1, d1, ds1, p1, q1, rfl, rfl, rfl, h1, r1⟩ := trodAll_cons r0
  obtain ⟨v2, vs2, d2, ds2, p2, q2, rfl, rfl, rfl, h2, r2⟩ := trodAll_cons r1
  obtain ⟨rfl, rfl, rfl⟩ := trodAll_nil r2
  obtain rfl : args = #[v0, v1, v2] := by cases args; simp_all
  obtain ⟨rfl, rfl⟩ := trodVars_none hV
  have k0 := h0
  have k1 := h1
  have k2 := h2
  have lt0 : ∀ x ∈ p0, x.block < W.heap.size := by obtain ⟨m, hm⟩ := k0; exact DataW.trod_lt m _ _ _ hm
  have lt1 : ∀ x ∈ p1, x.block < W.heap.size := by obtain ⟨m, hm⟩ := k1; exact DataW.trod_lt m _ _ _ hm
  have lt2 : ∀ x ∈ p2, x.block < W.heap.size := by obtain ⟨m, hm⟩ := k2; exact DataW.trod_lt m _ _ _ hm
  obtain ⟨a0, len0, cap0, rfl⟩ := okWide_slice Tryd.underlying28 (hval 0 28 v0 rfl rfl)
  obtain ⟨fuel0, hf0⟩ := h0
  obtain ⟨l0, rfl, hr0, hc0, hm0, hw0⟩ := kd_row Tryd.underlying28 (sz := 8) (by kernel_rfl) k48 rfl z48 _ el48 (by simpa [Value.cells] using hf0)
  obtain ⟨a1, len1, cap1, rfl⟩ := okWide_slice Tryd.underlying23 (hval 1 23 v1 rfl rfl)
  obtain ⟨z1, w1⟩ : ∃ zs, IsRow .i64 W a1 len1 cap1 zs := by
    obtain ⟨fuel, hf⟩ := h1
    rcases open_ints Tryd.underlying23 Tryd.underlying3 (by kernel_rfl) hf with ⟨hcs, _⟩ | ⟨x, l, c, zs, hcs, _, hl, hm, hz, _, hcell, hwz⟩
    · simp [Value.cells] at hcs
      obtain ⟨rfl, rfl, rfl⟩ := hcs
      exact ⟨[], .inl ⟨rfl, rfl, rfl, rfl⟩⟩
    · simp [Value.cells] at hcs
      obtain ⟨rfl, rfl, rfl⟩ := hcs
      exact ⟨zs, .inr ⟨_, rfl, hl, hm, by simpa using hz, hcell, hwz⟩⟩
  have y1 : len1 * 8 ≤ 140737488351232 := sized_ints hsz (j := 1) (t := 23) rfl rfl Tryd.underlying23 Tryd.underlying3 (by kernel_rfl) (by kernel_rfl) h1
  obtain ⟨l1, rfl, hr1, hm1, hw1, hc1⟩ := ReadsInt.ofRowC w1
  obtain ⟨a2, len2, cap2, rfl⟩ := okWide_slice Tryd.underlying27 (hval 2 27 v2 rfl rfl)
  obtain ⟨z2, w2⟩ : ∃ zs, IsRow .u8 W a2 len2 cap2 zs := by
    obtain ⟨fuel, hf⟩ := h2
    rcases open_ints Tryd.underlying27 Tryd.underlying5 (by kernel_rfl) hf with ⟨hcs, _⟩ | ⟨x, l, c, zs, hcs, _, hl, hm, hz, _, hcell, hwz⟩
    · simp [Value.cells] at hcs
      obtain ⟨rfl, rfl, rfl⟩ := hcs
      exact ⟨[], .inl ⟨rfl, rfl, rfl, rfl⟩⟩
    · simp [Value.cells] at hcs
      obtain ⟨rfl, rfl, rfl⟩ := hcs
      exact ⟨zs, .inr ⟨_, rfl, hl, hm, by simpa using hz, hcell, hwz⟩⟩
  have y2 : len2 * 1 ≤ 140737488351232 := sized_ints hsz (j := 2) (t := 27) rfl rfl Tryd.underlying27 Tryd.underlying5 (by kernel_rfl) (by kernel_rfl) h2
  obtain ⟨l2, rfl, hr2, hm2, hw2, hc2⟩ := ReadsInt.ofRowC w2
  clear hA0 hval0 hsz0 hsz
  refine (tocsinlaw26_CodecSays.calls 170000 a0 cap0 l0 a1 cap1 l1 a2 cap2 l2 true W hTb hr0 hc0 (Kd.C_of_reads (d := (0 : Int)) (h1 := fun _ => rfl) hr1) hc1 (Kd.C_of_reads (d := (0 : Int)) (h1 := fun _ => rfl) hr2) hc2 (law l0 l1 l2 (fun n hn => wf_u8 (hw2 n hn)) 170000 (by omega)) rfl).mono fun e W' ⟨he, bel⟩ => ?_
  subst he
  exact ⟨_, rfl, _, _, _, _, _, [], hW', trodAll_mk1 (shut_bool Tryd.underlying4 _), (trodAll_cons_mk (Below.trod Tryd.laidOut (by kernel_rfl) (of_decide_eq_true (by kernel_rfl)) k0 bel lt0) (trodAll_cons_mk (Below.trod Tryd.laidOut (by kernel_rfl) (of_decide_eq_true (by kernel_rfl)) k1 bel lt1) (trodAll_cons_mk (Below.trod Tryd.laidOut (by kernel_rfl) (of_decide_eq_true (by kernel_rfl)) k2 bel lt2) trodAll_mk0))), rfl, bel.frame _, fun h => by cases h⟩
theorem over : Rows.codecSaysRow.holds Tryd.pinned (OpenSpec.ofChange Rows.codecSaysSpec) :=
  OpenClaim.holds_of_wide 4 Tryd.f4 rfl rfl rfl rfl rfl rfl rfl ⟨rfl, rfl, rfl, rfl, rfl⟩ rfl rfl rfl rfl rfl (by kernel_rfl) Tryd.func4 (by kernel_rfl)
    (of_decide_eq_true (by kernel_rfl)) (by unfold Func.isWrapper; first | (rw [if_pos (by decide +kernel)]; kernel_rfl) | (rw [if_neg (by decide +kernel)]; exact ⟨rfl, rfl⟩))
    (fun os started H enc _ => lifted os started H enc)
end Go.Proofs.YtpgfecaomdioeaaDoor.Pure
namespace Go.Proofs.YtpgfecaomdioeaaDoor
open Go
/-- The tied card. -/
theorem codecSaysCard_holds : Rows.CodecSaysCardSaid :=
  Claim7.holds_tied_plain_at .later [] [.data, .data, .pinned, .pinned] true (true, "cb10c936b7431d6ef6c28867888dba52566e106ed2b145e92213133a3fd56773") false
    Pure.over (fun _ h => by cases h) (by kernel_rfl) (fun _ h => by cases h) codecSays_row_tie rfl ⟨rfl, rfl⟩ (by kernel_rfl) rfl
    (fun f fn hf hfn => by
      obtain rfl : f = 4 := Option.some.inj ((show Tryd.prog.funcNamed "tocsin/tocsinlaw26.CodecSays" = some 4 by kernel_rfl).symm.trans hf) |>.symm
      obtain rfl : fn = Tryd.f4 := (Option.some.inj (Tryd.func4.symm.trans hfn)).symm
      exact ⟨by kernel_rfl, fun j t ht => by
        rw [Tryd.params4] at ht
        have hm : t ∈ ([28, 23, 27] : List TypeId) := by simpa using Array.mem_of_getElem? ht
        have hall : (([28, 23, 27] : List TypeId).all fun u => !Tryd.prog.wantsStandIn u) = true := by kernel_rfl
        exact (show Tryd.prog.wantsStandIn t = false by simpa using List.all_eq_true.1 hall t hm)⟩)
    (by kernel_rfl)
end Go.Proofs.YtpgfecaomdioeaaDoor
#print axioms Go.Proofs.YtpgfecaomdioeaaDoor.codecSaysCard_holds
namespace Go.Proofs.YtpgfecaomdioeaaDoor.Pure

end Go.Proofs.YtpgfecaomdioeaaDoor.Pure
