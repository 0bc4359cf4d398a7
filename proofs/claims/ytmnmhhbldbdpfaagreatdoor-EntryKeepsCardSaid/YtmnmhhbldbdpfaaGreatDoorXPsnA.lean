/- A person; entrants and hashes in blocks. -/
import Derived.Test.YtmnmhhbldbdpfaaGreatDoorXSealG
import Derived.Test.YtmnmhhbldbdpfaaGreatDoorGK
namespace Go.Proofs.YtmnmhhbldbdpfaaGreatDoor
open Go.RowKit
set_option maxRecDepth 100000

/-- A person. -/
structure Psn where
  a : Int
  b : Int
  c : Int
  l : List Int
  ao : Option Addr
  cap : Nat
  s : ByteArray
def Psn.V (p : Psn) : Array Value := psnV p.a p.b p.c (.slice p.ao p.l.length p.cap) p.s
def Psn.ok (w : World) (p : Psn) : Prop := i64in p.a ∧ i64in p.b ∧ i64in p.c ∧ p.l.length ≤ p.cap ∧ p.cap ≤ 9223372036854775807 ∧ IntsSl w p.ao p.l ∧ p.s.size ≤ 9223372036854775807
theorem Psn.ok.upd {w w' : World} {p : Psn} (h : p.ok w) (u : Upd [] [] w w') : p.ok w' := ⟨h.1, h.2.1, h.2.2.1, h.2.2.2.1, h.2.2.2.2.1, h.2.2.2.2.2.1.upd u, h.2.2.2.2.2.2⟩
def Psn.ls (p : Psn) : List Int := p.l.take 61
def Psn.salt (p : Psn) : ByteArray := p.s.extract 0 (min (p.s.size : Int) 100).toNat
theorem Psn.salt_le (p : Psn) : p.salt.size ≤ 100 := by unfold Psn.salt; rw [ByteArray.size_extract]; omega
def Psn.txt (p : Psn) : List UInt8 := entL p.a p.b p.c p.ls
def Psn.sl (p : Psn) : List UInt8 := sealL (bs p.salt) p.txt
theorem psn_ls (p : Psn) : p.ls.length ≤ 1000 := by unfold Psn.ls; rw [List.length_take]; omega
theorem psn_entrant (p : Psn) (w : World) (h : p.ok w) : Calls Tryz.prog 33 #[.agg p.V] w (MkEnt p.a p.b p.c p.ls p.salt w) :=
  entrant22_any p.a p.b p.c p.l p.ao p.cap p.s w h.1 h.2.1 h.2.2.1 h.2.2.2.1 h.2.2.2.2.1 h.2.2.2.2.2.1 h.2.2.2.2.2.2
/-- An entrant in a new block. -/
theorem ent_new (wB : World) (a b c : Int) (ao : Option Addr) (n k : Nat) : ∃ (C : Array Value) (wC : World), Hid (C = entV a b c (.slice ao n k)) ∧ Hid ((wB.alloc (.cells (entV 0 0 0 (.slice none 0 0)) 71)).heap[wB.heap.size]? = some (.cells (entV 0 0 0 (.slice none 0 0)) 71 (0, 0))) ∧
    Hid ((Tryz.prog.info? 71).map (·.size) = some C.size) ∧ Hid ((entV 0 0 0 (.slice none 0 0)).size = C.size) ∧ Hid (C.all (·.oneCell') = true) ∧ Hid ((wB.alloc (.cells (entV 0 0 0 (.slice none 0 0)) 71)).setRow wB.heap.size C = wC) ∧
    Hid (wC.heap[wB.heap.size]? = some (.cells C 71 (0, 0))) ∧ Upd [] [] wB wC := by
  have hz5 := heap_alloc_new wB (.cells (entV 0 0 0 (.slice none 0 0)) 71)
  exact ⟨entV a b c (.slice ao n k), _, rfl, hz5, (by show _ = _; kernel_rfl), rfl, (by show _ = _; kernel_rfl), rfl, setRow_heap _ _ _ _ _ _ hz5, ((Upd.refl _ _).alloc _).setRowNew (Nat.le_refl _) _⟩
theorem ent_load {w : World} {g : Nat} {C : Array Value} (h : w.heap[g]? = some (.cells C 71 (0, 0))) (hi : Hid ((Tryz.prog.info? 71).map (·.size) = some C.size)) : (Instr.loadAt 71 (.pointer (some ⟨g, 0, none⟩))).run Tryz.prog w = .ok (.agg C) w := by
  obtain ⟨l⟩ := C
  refine run_loadAt_mid w g 0 _ l _ (fun j v hv => ?_) Tryz.underlying71 rfl (by rw [hi.out]; simp)
  rw [Nat.zero_add, cell_of_row _ _ _ _ _ _ h, List.getElem?_toArray]
  exact hv
theorem hash_load {w : World} {g : Nat} {l : List UInt8} (hl : l.length = 32) (H : Array Value) (hH : H = (byteVals l).toArray) (h : w.heap[g]? = some (.cells H 24 (0, 0))) : (Instr.loadAt 24 (.pointer (some ⟨g, 0, none⟩))).run Tryz.prog w = .ok (.agg H) w := by
  subst hH
  refine run_loadAt_mid w g 0 _ _ _ (fun j v hv => ?_) Tryz.underlying24 rfl (hashLen hl)
  rw [Nat.zero_add, cell_of_row _ _ _ _ _ _ h, List.getElem?_toArray]
  exact hv
end Go.Proofs.YtmnmhhbldbdpfaaGreatDoor
