/- PacketFinds: what is asked, in facts. -/
import Derived.Test.YtmpcnhiklpahnaaDoorPk23
namespace Go.Proofs.YtmpcnhiklpahnaaDoor
open Go.RowKit

/-- a law's reading: its sensor, count, stamp, values in bits -/
structure LRd where
  s : Int
  q : Nat
  t : Nat
  l : List Nat
/-- at A lie these readings in bits -/
def LrdAt (w : World) (A : Option Addr) (ls : List LRd) : Prop := ∀ (i : Nat) r, ls[i]? = some r → ∃ ad Av cv, A = some ad ∧ ad.block < w.heap.size ∧ w.cell? (ad.add (4 * i)) = some (.int .i64 r.s) ∧ w.cell? (ad.add (4 * i + 1)) = some (.int .u32 (r.q : Int)) ∧ w.cell? (ad.add (4 * i + 2)) = some (.int .u32 (r.t : Int)) ∧ w.cell? (ad.add (4 * i + 3)) = some (.slice Av r.l.length cv) ∧ SlAt w Av (u64v r.l) ∧ r.q < 4294967296 ∧ r.t < 4294967296 ∧ Words64 r.l ∧ r.l.length * 8 ≤ 140737488355328
theorem filter_take {p : Nat → Bool} {l : List Nat} {k : Nat} (h : k < l.length) : (l.take (k + 1)).filter p = (l.take k).filter p ++ (if p (l.getD k 0) then [l.getD k 0] else []) := by
  rw [take_snoc_getD h, List.filter_append]
  congr 1
  simp [List.filter_cons]
theorem quiet_feed (l : List Nat) : feedV pf ([] ++ l.filter (fun x => x != 181)) = ([], (l.filter (fun x => x != 181)).length, []) := by
  rw [List.nil_append]
  exact feed_quiet _ (fun c hc => by have := (List.mem_filter.1 hc).2; simpa using this)
theorem feed_begun' {r : Rd} (h : r.Ok pf) {k : Nat} (hk : k < (packV pf r).length) : feedV pf ([] ++ (packV pf r).take k) = ([], 0, (packV pf r).take k) := feed_begun h hk
theorem feed_whole {r : Rd} (h : r.Ok pf) (k : Nat) : feedV pf ((packV pf r).take k ++ (packV pf r).drop k) = ([r], 0, []) := by rw [List.take_append_drop]; exact feed_pack pf_ok h
theorem filter_bytes {l : List Nat} (h : Bytes l) (p : Nat → Bool) : Bytes (l.filter p) := fun x hx => h x (List.mem_filter.1 hx).1

end Go.Proofs.YtmpcnhiklpahnaaDoor
