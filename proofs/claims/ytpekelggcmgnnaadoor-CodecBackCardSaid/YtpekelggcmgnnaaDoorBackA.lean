/- quantumlaw07.CodecBack answers true: the walk and the plain law together. -/
import Derived.Test.YtpekelggcmgnnaaDoorBackW
import Derived.Test.YtpekelggcmgnnaaDoorShort
namespace Go.Proofs.YtpekelggcmgnnaaDoor
open Go.RowKit

theorem back_any (cpu : Nat) (hcpu : cpu < 256) (b : Bs) (hb : b.Ok) (A : Option Addr) (n c : Nat) (l : List Sm) (hl : ∀ x ∈ l, x.Ok) (A2 : Option Addr) (n2 c2 : Nat) (lt : List Nat) (hlt : ∀ x ∈ lt, x < 256)
    (B : Nat) (w : World) (hL : Laid B w) (hB : B ≤ w.heap.size) (hr : Rd w w.heap.size 11 A n (l.flatMap smL)) (hc : n ≤ c) (hn : n ≤ 9223372036854775807) (hr2 : Rd w w.heap.size 1 A2 n2 (lt.map B8)) (hn2 : n2 ≤ 140737488351232) :
    Calls Tryd.prog 10 #[.int .u8 (cpu : Int), .agg b.cells, .slice A n c, .slice A2 n2 c2] w (TruePost w) := by
  have hch := madeL_chain hcpu b hl
  obtain ⟨hbr, _⟩ := based_right b
  obtain ⟨hw1, hw2, hw3⟩ := write_fwd hbr hch
  have hok := chain_ok (madeL cpu b l) none b.based hch
  have hesl : (madeL cpu b l).length ≤ 200 := by unfold madeL; rw [madeGo_len, List.length_take]; omega
  have hob := recs_bytes (madeL cpu b l) b.based (fun e he => hok e he)
  exact back_walk cpu hcpu b hb A n c l hl A2 n2 c2 lt (madeL cpu b l) (recs b.based (madeL cpu b l)) (cpu % 64) rfl hok hesl (recs_most _ _ hesl) hob hw1 hw2 hw3
    (fun rest => readR_fwd hbr hch rest) (BackAt.start hch) (by omega) (by rw [Int.tmod_eq_emod_of_nonneg (by omega)]; simp) ⟨by omega, by omega⟩
    (fun x hx => by rcases List.mem_append.1 hx with h | h; exact hob x h; exact hlt x h) B w hL hB hr hc hn hr2 hn2
end Go.Proofs.YtpekelggcmgnnaaDoor
