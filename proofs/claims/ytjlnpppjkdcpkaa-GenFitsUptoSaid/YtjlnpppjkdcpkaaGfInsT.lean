/- Instructions as cells in memory. No conditions. -/
import Derived.Test.YtjlnpppjkdcpkaaGfLib
namespace Go.Proofs.Ytjlnpppjkdcpkaa.My
open Go.RowKit
structure Ins where
  kind : Int
  op : Int
  a : Int
  b : Int
  c : Int
  n : Int
instance : Inhabited Ins := ⟨⟨0, 0, 0, 0, 0, 0⟩⟩
def Ins.cells (x : Ins) : List Value := [.int .i64 x.kind, .int .i64 x.op, .int .i64 x.a, .int .i64 x.b, .int .i64 x.c, .int .i64 x.n]
/-- a row of instructions in memory -/
def insRow (w : World) (l : List Ins) (A : Option Addr) : Prop := ∀ j (hj : j < l.length), ∃ b o, A = some ⟨b, o, none⟩ ∧ ∀ m u, (l[j].cells)[m]? = some u → w.cell? ⟨b, o + j * 6 + m, none⟩ = some u
theorem insRow.at {W w : World} {l : List Ins} {A : Option Addr} (h : insRow W l A) (hB : Below W.heap.size W w) {j : Nat} (hj : j < l.length) : ∃ b o, A = some ⟨b, o, none⟩ ∧
    w.cell? ⟨b, o + j * 6, none⟩ = some (.int .i64 l[j].kind) ∧ w.cell? ⟨b, o + j * 6 + 1, none⟩ = some (.int .i64 l[j].op) ∧ w.cell? ⟨b, o + j * 6 + 2, none⟩ = some (.int .i64 l[j].a) ∧ w.cell? ⟨b, o + j * 6 + 3, none⟩ = some (.int .i64 l[j].b) ∧
    w.cell? ⟨b, o + j * 6 + 4, none⟩ = some (.int .i64 l[j].c) ∧ w.cell? ⟨b, o + j * 6 + 5, none⟩ = some (.int .i64 l[j].n) := by
  obtain ⟨b, o, hA, h⟩ := h j hj
  have hc : ∀ m u, (l[j].cells)[m]? = some u → w.cell? ⟨b, o + j * 6 + m, none⟩ = some u := fun m u hu => (hB.cell (World.block_lt_of_cell? W _ (h m u hu))).trans (h m u hu)
  exact ⟨b, o, hA, hc 0 _ rfl, hc 1 _ rfl, hc 2 _ rfl, hc 3 _ rfl, hc 4 _ rfl, hc 5 _ rfl⟩
end Go.Proofs.Ytjlnpppjkdcpkaa.My
