/- Contracts that the printed texts of CodecBack and CodecSays take as given: GetJobs, PutJobs, the reference's GetJobs. -/
-- slim
import Derived.Test.YtpgfecaomdioeaaDoorPCtx2
import Derived.Test.YtpgfecaomdioeaaDoorCodB
import Derived.Test.YtpgfecaomdioeaaDoorCodPutJ
import Derived.Test.YtpgfecaomdioeaaDoorCodRefJ
import Derived.Test.YtpgfecaomdioeaaDoorStCt
namespace Go.Proofs.YtpgfecaomdioeaaDoor.PCt
open Go.RowKit Go.Proofs.YtpgfecaomdioeaaDoor.PCt Go.Proofs.YtpgfecaomdioeaaDoorW.PrintWords Go.Proofs.YtpgfecaomdioeaaDoorW.PrintLast Go.Proofs.YtpgfecaomdioeaaDoorW.PrintMore 
set_option linter.unusedVariables false
set_option linter.unusedSimpArgs false

def byteL (l : List Int) : Bool := l.all fun x => decide (0 ≤ x ∧ x < 256)
theorem byteL_is {l : List Int} (h : byteL l = true) : ∀ x ∈ l, 0 ≤ x ∧ x < 256 := fun x hx => of_decide_eq_true (List.all_eq_true.1 h x hx)
theorem byteL_of {l : List Int} (h : ∀ x ∈ l, 0 ≤ x ∧ x < 256) : byteL l = true := List.all_eq_true.2 fun x hx => decide_eq_true (h x hx)
def codec_GetJobs.f (l0 : List Int) : Option (List S48 × Int) := if l0.length ≤ 1000000 ∧ byteL l0 = true then some (readJ l0 (wbT l0)) else none
theorem codec_GetJobs.calls (A0 : Option Addr) (c0 : Nat) (l0 : List Int) (r1 : List S48) (r2 : Int) (w : World) (hTb : Tab w) (hr0 : Kd.C (Kd.int .u8) w A0 l0.length l0) (hc0 : l0.length ≤ c0) (h : codec_GetJobs.f l0 = some (r1, r2)) :
  Calls Tryd.prog 8 #[.slice A0 l0.length c0] w fun e w' => ∃ v0_ : Value, e = .returned (.tuple #[v0_, .int .i64 r2]) ∧ Kd.R k48 48 w' w.heap.size (fun _ => True) v0_ r1 ∧ Below w.heap.size w w' := by
 unfold codec_GetJobs.f at h
 split at h
 ·rename_i hh
  have hb := byteL_is hh.2
  have h := Option.some.inj h
  have hP : ∀ wb, readJ l0 wb = (r1, r2) → ∀ {e : Ending} {w' : World}, JPost w (readJ l0 wb) e w' → ∃ v0_ : Value, e = .returned (.tuple #[v0_, .int .i64 r2]) ∧ Kd.R k48 48 w' w.heap.size (fun _ => True) v0_ r1 ∧ Below w.heap.size w w' := by
   intro wb hr e w' hp
   rw [hr] at hp
   exact hp
  by_cases h4 : l0.length < 4
  ·exact (getj_short A0 c0 l0 w h4).mono fun e w' hp => hP false (by rw [← h]; unfold readJ; rw [if_pos h4, if_pos h4]) hp
  ·have hw := wholeB_is l0 hb hh.1 1000001 (Nat.le_refl _)
   cases hwb : wbT l0 with
   | false =>
    rw [hwb] at hw h
    exact (getj_torn 1000001 A0 c0 l0 w hr0 hc0 hh.1 (by omega) hb hw).mono fun e w' hp => hP false h hp
   | true =>
    rw [hwb] at hw h
    exact (getj_whole 1000001 A0 c0 l0 w hTb hr0 hc0 hh.1 (by omega) hb hw).mono fun e w' hp => hP true h hp
 ·cases h
def codec_PutJobs.f (l0 : List S48) : Option (List Int) := if l0.length ≤ 200 ∧ l0.all (fun x => decide (x.f0.size ≤ 1000)) = true then some (putJ l0) else none
theorem codec_PutJobs.calls (A0 : Option Addr) (c0 : Nat) (l0 : List S48) (r : List Int) (w : World) (hTb : Tab w) (hr0 : Kd.C k48 w A0 l0.length l0) (hc0 : l0.length ≤ c0) (h : codec_PutJobs.f l0 = some r) :
  Calls Tryd.prog 9 #[.slice A0 l0.length c0] w fun e w' => ∃ v0_ : Value, e = .returned v0_ ∧ Kd.R (Kd.int .u8) 5 w' w.heap.size (fun _ => True) v0_ r ∧ Below w.heap.size w w' := by
 unfold codec_PutJobs.f at h
 split at h
 ·rename_i hh
  obtain rfl := Option.some.inj h
  exact putj_c A0 c0 l0 w hTb hr0 hc0 hh.1 (fun x hx => of_decide_eq_true (List.all_eq_true.1 hh.2 x hx))
 ·cases h
def tocsinref8_GetJobs.f (l0 : List Int) : Option (List S44 × Bool) := if l0.length ≤ 1000000 ∧ byteL l0 = true then some (readF l0) else none
theorem tocsinref8_GetJobs.calls (A0 : Option Addr) (c0 : Nat) (l0 : List Int) (r1 : List S44) (r2 : Bool) (w : World) (hTb : Tab w) (hr0 : Kd.C (Kd.int .u8) w A0 l0.length l0) (hc0 : l0.length ≤ c0) (h : tocsinref8_GetJobs.f l0 = some (r1, r2)) :
  Calls Tryd.prog 13 #[.slice A0 l0.length c0] w fun e w' => ∃ v0_ : Value, e = .returned (.tuple #[v0_, .bool r2]) ∧ Kd.R k44 44 w' w.heap.size (fun _ => True) v0_ r1 ∧ Below w.heap.size w w' := by
 unfold tocsinref8_GetJobs.f at h
 split at h
 ·rename_i hh
  have h := Option.some.inj h
  refine (rget_c A0 c0 l0 w hTb hr0 hc0 hh.1 (byteL_is hh.2)).mono ?_
  intro e w' hp
  unfold FPost at hp
  rw [h] at hp
  exact hp
 ·cases h

end Go.Proofs.YtpgfecaomdioeaaDoor.PCt
