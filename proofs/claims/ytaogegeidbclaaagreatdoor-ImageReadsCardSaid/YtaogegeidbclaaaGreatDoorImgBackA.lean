/- Low; what ImageBack asks of lists of bytes. -/
import Derived.Test.YtaogegeidbclaaaGreatDoorImgLaysA
namespace Go.Proofs.YtaogegeidbclaaaGreatDoor
open Go.RowKit

set_option maxRecDepth 100000 in
set_option maxHeartbeats 4000000 in
theorem low_is (x : Int) (m : Nat) (hm : 0 < m) (hl : m ≤ 9223372036854775807) (w : World) :
    Calls Tryz.prog 18 #[.int .i64 x, .int .i64 m] w fun e w' => (∃ k : Nat, e = .returned (.int .i64 k) ∧ k < m) ∧ w = w' := by
  go_enter Tryz.func18, Tryz.ntmps18
  try simp only [List.append_eq, List.cons_append, List.nil_append]
  go_wp2_with fail
  go_ret
  have h1 : IntKind.u64.wrap x = x % 18446744073709551616 := IntKind.wrap_u64 x
  have h2 : (x % 18446744073709551616).tmod (m : Int) = (x % 18446744073709551616) % (m : Int) := Int.tmod_eq_emod_of_nonneg (by omega)
  have r1 : 0 ≤ (x % 18446744073709551616) % (m : Int) := Int.emod_nonneg _ (by omega)
  have r2 : (x % 18446744073709551616) % (m : Int) < m := Int.emod_lt_of_pos _ (by omega)
  have h3 : wrap64 ((IntKind.u64.wrap x).tmod (m : Int)) = (x % 18446744073709551616) % (m : Int) := by
    rw [h1, h2]
    generalize (x % 18446744073709551616) % (m : Int) = r at r1 r2 ⊢
    unfold wrap64; omega
  refine ⟨⟨((x % 18446744073709551616) % (m : Int)).toNat, ?_, by omega⟩, rfl⟩
  show Ending.returned (.int .i64 (wrap64 ((IntKind.u64.wrap x).tmod (m : Int)))) = _
  rw [h3, Int.toNat_of_nonneg r1]
theorem LBytes.below {w w' : World} {B C : Nat} {A : Option Addr} {l : List Int} (h : LBytes w B A l) (hb : Below C w w') (hC : B ≤ C) : LBytes w' B A l := ⟨h.1, h.2.below hb hC⟩
theorem LBytes.reads {w : World} {B : Nat} {A : Option Addr} {l : List Int} (h : LBytes w B A l) : Reads w B 1 A l.length (l.map (Value.int .u8)) := by
  refine ⟨by simp, fun hn => ?_⟩
  obtain ⟨b, off, h1, h2, h3⟩ := h.2 (by simpa using hn)
  refine ⟨⟨b, off, none⟩, h1, h2, fun j u hj => ?_⟩
  rw [List.getElem?_map] at hj
  obtain ⟨n, hn', rfl⟩ := Option.map_eq_some_iff.1 hj
  have h4 := h3 j [Value.int .u8 n] (by rw [List.getElem?_map, hn']; rfl) 0 _ rfl
  rw [Go.WideShapes.add_plain]
  simpa using h4
theorem reads_take {w : World} {B : Nat} {A : Option Addr} {l : List Int} {k : Nat} (h : Reads w B 1 A l.length (l.map (Value.int .u8))) (hk : k ≤ l.length) : Reads w B 1 A (l.take k).length ((l.take k).map (Value.int .u8)) := by
  refine ⟨by simp, fun hn => ?_⟩
  have hk' : (l.take k).length = k := by rw [List.length_take]; omega
  obtain ⟨ad, h1, h2, h3⟩ := h.2 (by omega)
  refine ⟨ad, h1, h2, fun j u hu => h3 j u ?_⟩
  have hj : j < k := by have := (List.getElem?_eq_some_iff.1 hu).1; simp at this; omega
  rw [List.map_take, List.getElem?_take, if_pos hj] at hu; exact hu
/-- The image of nothing. -/
def Img.zero : Img := ⟨none, [], 0, none, [], 0, none, [], 0, none, [], 0, ⟨#[]⟩, none, [], 0, none, [], 0, none, [], 0, none, [], 0, none, [], 0, 0, 0⟩
theorem Img.zero_at (w : World) : Img.At w w.heap.size Img.zero :=
  ⟨⟨Nat.zero_le _, Rows.nil_ _ _ _ _, by simp [Img.zero]⟩, ⟨Nat.zero_le _, Rows.nil_ _ _ _ _, by simp [Img.zero]⟩, ⟨Nat.zero_le _, Rows.nil_ _ _ _ _, by simp [Img.zero]⟩, ⟨Nat.zero_le _, Rows.nil_ _ _ _ _⟩, ⟨Nat.zero_le _, Rows.nil_ _ _ _ _⟩, ⟨Nat.zero_le _, Rows.nil_ _ _ _ _⟩, ⟨Nat.zero_le _, Rows.nil_ _ _ _ _⟩, ⟨Nat.zero_le _, Rows.nil_ _ _ _ _⟩, ⟨Nat.zero_le _, Rows.nil_ _ _ _ _⟩⟩
theorem own_cap {w : World} {B e s c n : Nat} {A : Option Addr} {xs : List Value} (h : w.ownsRow B e s (.slice A n c) n xs) : n ≤ c := by
  rcases h.2 with ⟨h1, h2⟩ | ⟨g, cap, cur, h1, _, _, h2, _⟩
  · omega
  · cases h1; exact h2
/-- Two images compared by the laws, of which it is known. -/
theorem sImage_yes (B B' : Nat) (x y : Img) (w : World) (hx : Img.At w B x) (hy : Img.At w B' y) (hB : B ≤ w.heap.size) (hB' : B' ≤ w.heap.size) (hq : Img.eqb x y = true) :
    Calls Tryz.prog 13 #[.agg #[.slice x.fA x.faces.length x.fc, .slice x.cA x.classes.length x.cc, .slice x.dA x.codes.length x.dc, .slice x.nA x.insts.length x.nc, .string x.globals, .slice x.iA x.init.length x.ic, .slice x.bA x.blocks.length x.bc, .slice x.xA x.ins.length x.xc, .slice x.oA x.outs.length x.oc, .slice x.jA x.jobs.length x.jc, .int .i64 x.d, .int .i64 x.w], .agg #[.slice y.fA y.faces.length y.fc, .slice y.cA y.classes.length y.cc, .slice y.dA y.codes.length y.dc, .slice y.nA y.insts.length y.nc, .string y.globals, .slice y.iA y.init.length y.ic, .slice y.bA y.blocks.length y.bc, .slice y.xA y.ins.length y.xc, .slice y.oA y.outs.length y.oc, .slice y.jA y.jobs.length y.jc, .int .i64 y.d, .int .i64 y.w]] w fun e w' => e = .returned (.bool true) ∧ Below w.heap.size w w' :=
  (sImage_is B B' x y w hx hy hB hB').mono fun _ _ h => ⟨h.1.trans (by rw [Img.eqI_is, hq]), h.2⟩
end Go.Proofs.YtaogegeidbclaaaGreatDoor
