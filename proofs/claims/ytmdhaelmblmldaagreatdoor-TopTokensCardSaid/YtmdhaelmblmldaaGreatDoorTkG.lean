/- errors.Is of one error of package diag that wraps none, told by its cells alone. -/
import Derived.Test.YtmdhaelmblmldaaGreatDoorTkF
namespace Go.Proofs.YtmdhaelmblmldaaGreatDoor
set_option linter.constructorNameAsVariable false
set_option linter.unusedVariables false
set_option linter.unusedSimpArgs false
open Go.RowKit Go.Extern.Stop Go.Stop Go.Extern
theorem Er.compE : (Tryz.prog.info? 82).map (·.comparable) = some true := by kernel_rfl
theorem Er.sizeE : (Tryz.prog.info? 87).map (·.size) = some 3 := by kernel_rfl

theorem Er.toE (v : Value) (xT : TypeId) (w : World) : (Instr.typeAssert (.iface 82 v) xT 82 true).run Tryz.prog w = .ok (.tuple #[v, .bool true]) w := by kernel_rfl
theorem Er.hasIsE (v : Value) (xT : TypeId) (w : World) : (Instr.typeAssert (.iface 82 v) xT 534 true).run Tryz.prog w = .ok (.tuple #[.iface 82 v, .bool true]) w := run_typeAssert_hasB Tryz.underlying534 (by kernel_rfl) v xT w
theorem Er.mIs (n : Nat) (v : Value) (w : World) : (Go.method (n + 1) 82 v "Is").run Tryz.prog w = .ok (609, v) w := by kernel_rfl
theorem Er.callComparable (w : World) : (callFunc 618 #[.agg #[.pointer (some ⟨12, 82, none⟩)]]).run Tryz.prog w = .ok (.value (.bool true)) w := by kernel_rfl
theorem Er.mComparable (n : Nat) (h : Value) (w : World) : (Go.method (n + 1) 232 (.agg #[h]) "Comparable").run Tryz.prog w = .ok (618, .agg #[h]) w := by kernel_rfl

theorem Tk.sameAddr_other {w : World} {P : Program} {a b : Addr} {ca cb : Array Value} {ta tb : TypeId} {fa : Nat × Nat} (hne : a.block ≠ b.block) (ha : w.heap[a.block]? = some (.cells ca ta fa)) (hz : ca.size ≠ 0) (hb : w.heap[b.block]? = some (.cells cb tb)) :
    (sameAddr a b).run P w = .ok false w := by
  simp [sameAddr, hne, World.frozen?, ha, hb, noView, viewAt, World.shape?, mayBeOne, stringish, hz]
theorem Tk.eql_other {w : World} {P : Program} {ti tp te : TypeId} {ms : Array (String × TypeId)} {i j : TypeInfo} {a b : Addr} {ca cb : Array Value} {ta tb : TypeId} {fa : Nat × Nat}
    (hi : P.underlying ti = some (.interface ms)) (hp : P.underlying tp = some (.pointer te)) (hinfo : P.info? tp = some i) (hcomp : i.comparable = true) (hte : P.info? te = some j) (hsz : j.size ≠ 0)
    (hne : a.block ≠ b.block) (ha : w.heap[a.block]? = some (.cells ca ta fa)) (hz : ca.size ≠ 0) (hb : w.heap[b.block]? = some (.cells cb tb)) :
    (binOp .eql ti (.iface tp (.pointer (some a))) (.iface tp (.pointer (some b)))).run P w = .ok (.bool false) w := by
  have h : ∀ d : Nat, (Op.equalIn (d + 2) ti (.iface tp (.pointer (some a))) (.iface tp (.pointer (some b)))).run P w = .ok false w := fun d => by
    simp [Op.equalIn, run_underlying hi, run_underlying hp, typeInfo, hinfo, hcomp, sizeOf, hte, hsz, Tk.sameAddr_other hne ha hz hb]
  simp only [binOp]
  simp [Op.equal, Op.maxDepth, h 9998]
set_option maxRecDepth 100000 in
set_option maxHeartbeats 2000000 in
theorem is_own (b o bt ot : Nat) (k : Int) (a : Value) (c : Int) (r : Bool) (w : World) (hr : (c == k) = r) (h : Tk.Has w b o [.int .i64 k, a, .nilIface]) (ht : Tk.Has w bt ot [.int .i64 c, .int .i64 (-1), .nilIface]) :
    Calls Tryz.prog 609 #[.pointer (some ⟨b, o, none⟩), .iface 82 (.pointer (some ⟨bt, ot, none⟩))] w fun e w' => e = .returned (.bool r) ∧ ∃ n, w' = w.drewN n := by
  have ta := Er.toE
  have q0 : w.cell? ⟨b, o, none⟩ = some (.int .i64 k) := h.cell 0 _ rfl
  have t0 : w.cell? ⟨bt, ot, none⟩ = some (.int .i64 c) := ht.cell 0 _ rfl
  have t1 := ht.cell 1 _ rfl
  have t2 : w.cell? ⟨bt, ot + 2, none⟩ = some .nilIface := ht.cell 2 _ rfl
  have hlt := h.lt
  have htl := ht.lt
  clear h ht
  cases r
  · go_enter Tryz.func609, Tryz.ntmps609
    try simp only [List.append_eq, List.cons_append, List.nil_append]
    go_wp2_with fail
    go_quiet (fail)
    go_wp2_with fail
    go_ret
    exact ⟨rfl, _, rfl⟩
  · obtain rfl : c = k := by simpa using hr
    go_enter Tryz.func609, Tryz.ntmps609
    try simp only [List.append_eq, List.cons_append, List.nil_append]
    go_wp2_with fail
    go_quiet (fail)
    go_wp2_with fail
    go_ret
    exact ⟨rfl, _, rfl⟩
theorem unwrap_own (b o : Nat) (c : Int) (a : Value) (w : World) (h : Tk.Has w b o [.int .i64 c, a, .nilIface]) :
    Calls Tryz.prog 610 #[.pointer (some ⟨b, o, none⟩)] w fun e w' => e = .returned .nilIface ∧ w = w' := by
  have q2 : w.cell? ⟨b, o + 2, none⟩ = some .nilIface := h.cell 2 _ rfl
  have hlt := h.lt
  clear h
  go_enter Tryz.func610, Tryz.ntmps610
  go_wp2_with fail
  go_ret
  exact ⟨rfl, rfl⟩
set_option maxRecDepth 100000 in
set_option maxHeartbeats 4000000 in
theorem isLoop (b o bt ot : Nat) (k : Int) (a : Value) (c : Int) (r : Bool) (W : World) (hr : (c == k) = r) (hE : Tk.Has W b o [.int .i64 k, a, .nilIface]) (ht : Tk.Has W bt ot [.int .i64 c, .int .i64 (-1), .nilIface]) (hno : b ≠ bt) (hpl : ∃ cs e, W.heap[bt]? = some (.cells cs e)) :
    Calls Tryz.prog 365 #[.iface 82 (.pointer (some ⟨b, o, none⟩)), .iface 82 (.pointer (some ⟨bt, ot, none⟩)), .bool true] W fun e w' => e = .returned (.bool r) ∧ Below W.heap.size W w' := by
  obtain ⟨i, hi, hcmp⟩ := Option.map_eq_some_iff.1 Er.compE
  obtain ⟨j, hj, hjs⟩ := Option.map_eq_some_iff.1 Er.sizeE
  obtain ⟨c1, y1, z1, g1, n1⟩ := hE.raw
  obtain ⟨c2, y2, g2⟩ := hpl
  have g3 : c1.size ≠ 0 := by
    have h4 := hE.cell 0 _ rfl
    rw [Nat.add_zero] at h4
    have h5 : c1[o]? = some (.int .i64 k) := by have h6 : W.cell? ⟨b, o, none⟩ = c1[o]? := by simp [World.cell?, g1]
                                                rw [← h6]; exact h4
    have := (Array.getElem?_eq_some_iff.1 h5).1
    omega
  have heq := Tk.eql_other (P := Tryz.prog) (a := ⟨b, o, none⟩) (b := ⟨bt, ot, none⟩) Tryz.underlying56 Tryz.underlying82 hi hcmp hj (by rw [hjs]; decide) hno g1 g3 g2
  have HT := Aid.hid ht
  have HE := Aid.hid hE
  have HQ := Aid.hid hr
  have f1 := Er.hasIsE
  have f2 := Er.hasUnwrapE
  have f8 := Er.mIs
  have f9 := Er.mUnwrapE
  clear hcmp hi hj hjs ht hE g1 g2 g3 n1 hr hno
  go_enter Tryz.func365, Tryz.ntmps365
  try simp only [List.append_eq, List.cons_append, List.nil_append]
  go_wp2_with fail
  go_loopg [0] 1 (fun n v wr => n = 1 ∧ v = .iface 82 (.pointer (some ⟨b, o, none⟩)) ∧ wr = W)
  case atStart => exact ⟨rfl, rfl, rfl⟩
  case round =>
    obtain ⟨rfl, rfl, rfl⟩ := hrel
    cases r
    · go_wp2_with fail
      refine (is_own b o bt ot k a c false _ HQ.out HE.out HT.out).mono ?_; rintro e w2 ⟨rfl, n, rfl⟩
      go_wp2_with fail
      refine (unwrap_own b o k a _ (HE.out.below (below_drewN (Below.refl _ _) n))).mono ?_; rintro e w2 ⟨rfl, rfl⟩
      clear heq
      go_wp2_with fail
      go_ret
      exact ⟨rfl, below_drewN (Below.refl _ _) n⟩
    · go_wp2_with fail
      refine (is_own b o bt ot k a c true _ HQ.out HE.out HT.out).mono ?_; rintro e w2 ⟨rfl, n, rfl⟩
      go_wp2_with fail
      go_ret
      exact ⟨rfl, below_drewN (Below.refl _ _) n⟩
/-- errors.Is. -/
theorem is_one (b o bt ot : Nat) (k : Int) (a : Value) (c : Int) (r : Bool) (w : World) (hr : (c == k) = r) (hE : Tk.Has w b o [.int .i64 k, a, .nilIface]) (ht : Tk.Has w bt ot [.int .i64 c, .int .i64 (-1), .nilIface]) (hno : b ≠ bt) (hpl : ∃ cs e, w.heap[bt]? = some (.cells cs e)) :
    Calls Tryz.prog 242 #[.iface 82 (.pointer (some ⟨b, o, none⟩)), .iface 82 (.pointer (some ⟨bt, ot, none⟩))] w fun e w' => e = .returned (.bool r) ∧ Below w.heap.size w w' := by
  have h1 := Er.callTypeOf
  have h2 := Er.callComparable
  have f3 := Er.mComparable
  have hc := isLoop b o bt ot k a c r w hr hE ht hno hpl
  clear hE ht hno hpl hr
  go_enter Tryz.func242, Tryz.ntmps242
  go_wp2_with fail
  refine hc.mono ?_; rintro e w' ⟨rfl, hb⟩
  clear hc
  go_wp2_with fail
  go_ret
  exact ⟨rfl, hb⟩
theorem is_nil (v : Value) (w : World) :
    Calls Tryz.prog 242 #[.nilIface, .iface 82 v] w fun e w' => e = .returned (.bool false) ∧ Below w.heap.size w w' := by
  have hnl := run_eql_iface_nil_left (P := Tryz.prog) w 82 v Tryz.underlying56
  go_enter Tryz.func242, Tryz.ntmps242
  go_wp2_with fail
  go_ret
  exact ⟨rfl, Below.refl _ _⟩
end Go.Proofs.YtmdhaelmblmldaaGreatDoor
