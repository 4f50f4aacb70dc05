/- Contracts that the printed text of CodecSays takes as given beside StGj: the reference's PutJobs and GetTrace. -/
-- slim
import Derived.Test.YtpgfecaomdioeaaDoorPCtx2
import Derived.Test.YtpgfecaomdioeaaDoorStGj
import Derived.Test.YtpgfecaomdioeaaDoorCodPutR
import Derived.Test.YtpgfecaomdioeaaDoorCodGetR
namespace Go.Proofs.YtpgfecaomdioeaaDoor.PCt
open Go.RowKit Go.Proofs.YtpgfecaomdioeaaDoor.PCt Go.Proofs.YtpgfecaomdioeaaDoorW.PrintWords Go.Proofs.YtpgfecaomdioeaaDoorW.PrintLast Go.Proofs.YtpgfecaomdioeaaDoorW.PrintMore 
set_option linter.unusedVariables false
set_option linter.unusedSimpArgs false

def tocsinref8_PutJobs.f (l0 : List S44) : Option (List Int) := if l0.length ≤ 200 ∧ l0.all (fun x => decide (x.f0.size ≤ 1000)) = true then some (putR l0) else none
theorem tocsinref8_PutJobs.calls (A0 : Option Addr) (c0 : Nat) (l0 : List S44) (r : List Int) (w : World) (hTb : Tab w) (hr0 : Kd.C k44 w A0 l0.length l0) (hc0 : l0.length ≤ c0) (h : tocsinref8_PutJobs.f l0 = some r) :
  Calls Tryd.prog 17 #[.slice A0 l0.length c0] w fun e w' => ∃ v0_ : Value, e = .returned v0_ ∧ Kd.R (Kd.int .u8) 5 w' w.heap.size (fun _ => True) v0_ r ∧ Below w.heap.size w w' := by
 unfold tocsinref8_PutJobs.f at h
 split at h
 ·rename_i hh
  obtain rfl := Option.some.inj h
  exact rput_c A0 c0 l0 w hTb hr0 hc0 hh.1 (fun x hx => of_decide_eq_true (List.all_eq_true.1 hh.2 x hx))
 ·cases h
def tocsinref8_GetTrace.f (l0 : List Int) : Option (List Int × Bool) := if l0.length ≤ 1000000 ∧ byteL l0 = true then some (readRT l0) else none
theorem tocsinref8_GetTrace.calls (A0 : Option Addr) (c0 : Nat) (l0 : List Int) (r1 : List Int) (r2 : Bool) (w : World) (hr0 : Kd.C (Kd.int .u8) w A0 l0.length l0) (hc0 : l0.length ≤ c0) (h : tocsinref8_GetTrace.f l0 = some (r1, r2)) :
  Calls Tryd.prog 14 #[.slice A0 l0.length c0] w fun e w' => ∃ v0_ : Value, e = .returned (.tuple #[v0_, .bool r2]) ∧ Kd.R (Kd.int .i64) 3 w' w.heap.size (fun _ => True) v0_ r1 ∧ Below w.heap.size w w' := by
 unfold tocsinref8_GetTrace.f at h
 split at h
 ·rename_i hh
  have h := Option.some.inj h
  refine (rgt_c A0 c0 l0 w hr0 hc0 hh.1 (byteL_is hh.2)).mono ?_
  intro e w' hp
  unfold TPost at hp
  rw [h] at hp
  exact hp
 ·cases h

end Go.Proofs.YtpgfecaomdioeaaDoor.PCt
