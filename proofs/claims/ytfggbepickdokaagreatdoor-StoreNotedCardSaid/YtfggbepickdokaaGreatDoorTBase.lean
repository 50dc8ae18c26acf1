/- Leads to the Store laws of chapter 6: Base. -/
import Derived.Test.YtfggbepickdokaaGreatDoorT41
set_option maxHeartbeats 200000
set_option maxRecDepth 100000
set_option linter.all false
namespace Go.Proofs.YtfggbepickdokaaGreatDoor
open Go.RowKit Go.Maps Sp Mt Go.Conc
theorem base_roots:True:=by
 have h:=@stored_co;have h:=@leads_op;have h:=@leads_call;have h:=@leads_region;have h:=@leads_inRegion;have h:=@leads_cond;have h:=@leads_ret;have h:=@leads_seq;have h:=@leads_skip;have h:=@ev_call;have h:=@calls_co;have h:=@pieces_co;have h:=@piece_step;have h:=@ends_good
 have h:=@fit_at;have h:=@great_at;have h:=@histories2_at;have h:=@through2_at;have h:=@thr_len;have h:=@missing2_at;have h:=@miss_len
 have h:=@sameNums_at;have h:=@sameParts_at;have h:=@open_book;have h:=@open_nums;have h:=@kinds_of_laid;have h:=@arg_stays;have h:=@kept_old;have h:=@door_met;have h:=@ownNone
 have h:=@mem_pasts;have h:=@add_off;have h:=@old_at;have h:=@Old.raw;have h:=@RawAt.below;have h:=@Old.cell2;have h:=@on_at;have h:=@through_same
 trivial
end Go.Proofs.YtfggbepickdokaaGreatDoor
