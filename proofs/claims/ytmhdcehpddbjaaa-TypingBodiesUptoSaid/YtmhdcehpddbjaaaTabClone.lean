/- slices.Clone of a list of variables; appends inside a round. -/
import Derived.Test.YtmhdcehpddbjaaaTabBack
import Derived.Test.YtmhdcehpddbjaaaTabVars
import Derived.WideShapes
namespace Go.Proofs.Ytmhdcehpddbjaaa
open Go.RowKit Go.Shelf

theorem Rows.flat_len {sz : Nat} : ∀ (rows : List (List Value)) (_ : ∀ r ∈ rows, r.length = sz), rows.flatten.length = rows.length * sz
  | [], _ => by simp
  | x :: t, hs => by
    have h1 := Rows.flat_len t (fun r hr => hs r (by simp [hr]))
    have h2 := hs x (by simp)
    simp only [List.flatten_cons, List.length_append, List.length_cons, Nat.succ_mul, h1, h2]
    omega
theorem Rows.unflat {sz : Nat} : ∀ (rows : List (List Value)) (_ : ∀ r ∈ rows, r.length = sz) (j : Nat) (v : Value), rows.flatten[j]? = some v → ∃ i k r, j = i * sz + k ∧ rows[i]? = some r ∧ r[k]? = some v
  | [], _, j, v, h => by simp at h
  | x :: t, hs, j, v, h => by
    have hx : x.length = sz := hs x (by simp)
    simp only [List.flatten_cons] at h
    rcases Nat.lt_or_ge j sz with hj | hj
    · rw [List.getElem?_append_left (by omega)] at h
      exact ⟨0, j, x, by simp, by simp, h⟩
    · rw [List.getElem?_append_right (by omega), hx] at h
      obtain ⟨i, k, r, h1, h2, h3⟩ := Rows.unflat t (fun r hr => hs r (by simp [hr])) _ _ h
      exact ⟨i + 1, k, r, by rw [Nat.succ_mul]; omega, by simpa using h2, h3⟩
theorem Rows.reads {w : World} {B sz : Nat} {A : Option Addr} {rows : List (List Value)} (hs : ∀ r ∈ rows, r.length = sz) (h : Rows w B sz A rows) : Reads w B sz A rows.length rows.flatten :=
  ⟨Rows.flat_len rows hs, fun hn => by
    obtain ⟨b, off, h1, h2, h3⟩ := h hn
    refine ⟨⟨b, off, none⟩, h1, h2, fun j u hu => ?_⟩
    obtain ⟨i, k, r, rfl, h4, h5⟩ := Rows.unflat rows hs j u hu
    have := h3 i r h4 k u h5
    rw [Go.WideShapes.add_plain, ← Nat.add_assoc]; exact this⟩

theorem wpListIn_append_any {F : Fence} {n' : Nat} {P : Program} (w : World) {ops : Array Oper} {rest : List Oper} {o : Oper} {a : Act} {Q : Exit → Act → World → Prop} (hgd : o.guard = none) (s x : Operand) (t : TypeId)
    (ho : o.op = .call { callee := .builtin .append, args := #[s, x], argTypes := #[t, t] })
    (base : Nat) (e : TypeId) (i : TypeInfo) (z : Value) (size bytes : Nat) (ht : P.underlying t = some (.slice e)) (hi : P.info? e = some i) (hz : i.zero = some z)
    (hsize : i.size = size) (hby : i.bytes = bytes) (hzs : z.cells.size = size) (hsz : 0 < size)
    (v : Value) (n : Nat) (xs : List Value) (hs : a.eval s = v) (hown : w.ownsRow base e size v n xs)
    (B : Nat) (A : Option Addr) (m c : Nat) (news : List Value) (hx : a.eval x = .slice A m c) (hr : Reads w B size A m news) (h1 : ∀ u ∈ news, u.oneCell' = true)
    (h63 : n + m ≤ maxLen) (hbytes : (n + m) * bytes ≤ 140737488355328) (hbase : base ≤ w.heap.size)
    (h : ∀ v' w', w'.ownsRow base e size v' (n + m) (xs ++ news) → w.grownBy w' v.ownBlock → wpListIn F n' P ops Q rest (a.put o.dst v') w') : wpListIn F n' P ops Q (o :: rest) a w := by
  refine wpListIn_plain hgd fun K hK' => ?_
  obtain ⟨v', w', hrun, r1, r2, _⟩ := run_append_any (P := P) w base t o.type e i z size bytes ht hi hz hsize hby hzs hsz v n xs hown B A m c news hr h1 h63 hbytes hbase
  unfold Oper.wpIn
  refine ⟨?_, ?_⟩
  · simp [Oper.about, ho, resolve, Target.leads, Sem.run_pure]
  · rw [Oper.semAt_plain F _ _ (by rw [ho]; intro c hc'; cases hc')]
    simp [execOp, ho, resolve, invoke, builtin, hs, hx, hrun, Result.andThen]
    exact hK' _ _ (h v' w' r1 r2)

theorem own_slice {w : World} {base e sz n : Nat} {v : Value} {xs : List Value} (h : w.ownsRow base e sz v n xs) : ∃ A c, v = .slice A n c := by
  rcases h.2 with ⟨rfl, rfl⟩ | ⟨g, cap, cur, rfl, _⟩
  · exact ⟨none, 0, rfl⟩
  · exact ⟨_, _, rfl⟩
theorem equalIn_nil_vars (w : World) (d : Nat) (a : Option Addr) (l c : Nat) : (Op.equalIn (d + 1) 39 (.slice a l c) (.slice none 0 0)).run Try.prog w = .ok a.isNone w := by
  cases a <;> simp [Op.equalIn, run_underlying Try.underlying39]
theorem equal_nil_vars (w : World) (a : Option Addr) (l c : Nat) : (Op.equal 39 (.slice a l c) (.slice none 0 0)).run Try.prog w = .ok a.isNone w := equalIn_nil_vars w 9999 a l c
theorem eql_nil_vars (w : World) (a : Option Addr) (l c : Nat) : (binOp .eql 39 (.slice a l c) (.slice none 0 0)).run Try.prog w = .ok (.bool a.isNone) w := by
  simp [binOp, equal_nil_vars w a l c]

set_option maxRecDepth 100000 in
set_option maxHeartbeats 1000000 in
theorem clone_is (A : Option Addr) (c B : Nat) (zs : List Vd) (w : World) (hx : Rows w B 8 A (zs.map Vd.cells)) (hB : B ≤ w.heap.size) (lz : zs.length ≤ 1000000000) :
    Calls Try.prog 40 #[.slice A zs.length c] w fun e w' => ∃ A' c', e = .returned (.slice A' zs.length c') ∧
      w'.ownsRow w.heap.size 74 8 (.slice A' zs.length c') zs.length (zs.map Vd.cells).flatten ∧ Below w.heap.size w w' := by
  obtain ⟨i0, hi, hz0, hz1, hz2⟩ := info_parts info_var
  have hnil := eql_nil_vars
  rcases A with _ | ad
  · have hz : zs.length = 0 := by
      rcases Nat.eq_zero_or_pos zs.length with h | h
      · exact h
      · obtain ⟨b, off, h1, _⟩ := Rows.var hx h
        cases h1
    obtain rfl := List.eq_nil_of_length_eq_zero hz
    go_enter Try.func40, Try.ntmps40
    try simp only [List.append_eq, List.cons_append, List.nil_append]
    go_wp2_with fail
    go_ret
    exact ⟨none, 0, rfl, World.ownsRow_nil _ _ _ _, Below.refl _ _⟩
  · have hr0 : Reads (w.alloc (.cells #[] 74)) B 8 (some ad) zs.length (zs.map Vd.cells).flatten := by
      have h := Rows.reads (Vd.len zs) (hx.below ((Below.refl w.heap.size w).alloc (Nat.le_refl _) (.cells #[] 74)) hB)
      rwa [List.length_map] at h
    have hown0 : (w.alloc (.cells #[] 74)).ownsRow w.heap.size 74 8 (.slice (some ⟨w.heap.size, 0, none⟩) 0 0) 0 [] :=
      ⟨rfl, Or.inr ⟨w.heap.size, 0, #[], rfl, Nat.le_refl _, World.alloc_heap_new w _, Nat.le_refl _, Nat.zero_le _, rfl, rfl⟩⟩
    go_enter Try.func40, Try.ntmps40
    try simp only [List.append_eq, List.cons_append, List.nil_append]
    go_wp2_with (at_builtin; refine wpList_append_any _ rfl _ _ 39 rfl w.heap.size 74 i0 (.agg #[.string ⟨#[]⟩, .int .i64 0, .int .i64 0, .int .i64 0, .string ⟨#[]⟩, .int .i64 0, .int .i64 0, .int .i64 0]) 8 80 Try.underlying39 hi hz0 hz1 hz2 rfl (by decide) _ _ _ rfl hown0 B (some ad) zs.length c _ rfl hr0 Vd.one ?c1 ?c2 ?c3 ?_)
    case c1 => unfold maxLen; omega
    case c2 => omega
    case c3 => simp
    · intro v' w1 hown' hgrow _
      go_wp2_with fail
      go_ret
      obtain ⟨A', c', rfl⟩ := own_slice hown'
      exact ⟨A', c', by simp, hown', ((Below.refl w.heap.size w).alloc (Nat.le_refl _) _).grown hgrow (by simp) (fun q hq => by simp [Value.ownBlock] at hq; omega)⟩
end Go.Proofs.Ytmhdcehpddbjaaa
