/- What acts: append; calls; all of it in one law. -/
import Derived.Test.YtlajbngfdbnoiaaEvO
namespace Go.Proofs.Ytlajbngfdbnoiaa
set_option linter.unusedSimpArgs false
set_option linter.unusedVariables false
set_option linter.constructorNameAsVariable false
open Go Go.RowKit
namespace Ev
variable {path : List (Cd × Bool)}
variable {P : Program} {tt : TT} {ν : Nat → Int} {ρ : Pl} {ds : List (Option Tmp)} {sv : Src → V} {a : Act} {en : En} {w : World} {o : Oper} {v : V}
/-- What is laid behind: so many things, these cells; the same in each world of this memory. -/
def ApArg (P : Program) (w : World) (i : TypeInfo) (z : Value) (u : TypeId) (x : Value) (n : Nat) (news : List Value) : Prop :=
  (∃ d, P.underlying u = some d ∧ (∀ k, d ≠ .int k) ∧ (∀ w', w'.heap = w.heap → (Builtin.lenOf x).run P w' = .ok n w' ∧ (Builtin.firstCells i.size n x).run P w' = .ok news.toArray w')) ∨
  (∃ k k', P.underlying u = some (.int k) ∧ x = .int k' (n : Int) ∧ n ≤ 1000000 ∧ i.bytes ≤ 1000 ∧ news.toArray = if n * i.size = 0 then #[] else Builtin.zeroCells z.cells n)
theorem wrap_small {n : Nat} (h : n ≤ 1000000) : IntKind.i64.wrap (n : Int) = (n : Int) := by rw [IntKind.wrap_i64]; omega
theorem bytes_small {n b : Nat} (h : n ≤ 1000000) (hb : b ≤ 1000) : ¬ ((281474976710656 : Int) < (n : Int) * (b : Int)) := by
  have : n * b ≤ 1000000 * 1000 := Nat.mul_le_mul h hb
  have : ((n * b : Nat) : Int) ≤ 1000000 * 1000 := by omega
  rw [Int.natCast_mul] at this; omega
section
variable {t u ty e : TypeId} {i : TypeInfo} {z : Value} {x : Value} {n : Nat} {news : List Value} {base : Option Addr} {sLen sCap : Nat}
theorem ap_room (ht : P.underlying t = some (.slice e)) (hi : P.info? e = some i) (hz : i.zero = some z) (hx : ApArg P w i z u x n news) (hroom : sLen + n ≤ sCap) {w2 : World}
    (hst : ∀ p, base = some p → (storeCells (p.add (sLen * i.size)) news).run P w = .ok () w2) (hst0 : base = none → w2 = w) :
    (Builtin.append_ #[t, u] ty #[.slice base sLen sCap, x]).run P w = .ok (.slice base (sLen + n) sCap) w2 := by
  rcases hx with ⟨d, hu, hd, hx⟩ | ⟨k, k', hu, rfl, hn, hb, hnews⟩
  · obtain ⟨h1, h2⟩ := hx w rfl
    have hm : (match d with | TypeDesc.int _ => true | _ => false) = false := by cases d <;> first | rfl | exact absurd rfl (hd _)
    cases base with
    | none =>
      obtain rfl := hst0 rfl
      simp [Builtin.append_, run_underlying ht, run_underlying hu, sizeOf, typeInfo, hi, hm, h1, h2, hroom]
    | some p =>
      have h3 := hst p rfl
      simp [Builtin.append_, run_underlying ht, run_underlying hu, sizeOf, typeInfo, hi, hm, h1, h2, hroom, h3]
  · have hw := wrap_small hn
    have hb' := bytes_small hn hb
    have h0 : ¬ ((n : Int) < 0) := by omega
    by_cases hns : n * i.size = 0
    · rw [if_pos hns] at hnews
      have hnl : news = [] := by cases news <;> simp_all
      subst hnl
      cases base with
      | none =>
        obtain rfl := hst0 rfl
        simp [Builtin.append_, run_underlying ht, run_underlying hu, sizeOf, typeInfo, hi, asInt, asIntOf, hw, hb', h0, hroom, hns]
      | some p =>
        have h3 := hst p rfl
        simp [Builtin.append_, run_underlying ht, run_underlying hu, sizeOf, typeInfo, hi, asInt, asIntOf, hw, hb', h0, hroom, hns, h3]
    · rw [if_neg hns] at hnews
      have hnl : (Builtin.zeroCells z.cells n).toList = news := by rw [← hnews]
      cases base with
      | none =>
        obtain rfl := hst0 rfl
        simp [Builtin.append_, run_underlying ht, run_underlying hu, sizeOf, typeInfo, zeroValue, hi, hz, asInt, asIntOf, hw, hb', h0, hroom, hns]
      | some p =>
        have h3 := hst p rfl
        simp [Builtin.append_, run_underlying ht, run_underlying hu, sizeOf, typeInfo, zeroValue, hi, hz, asInt, asIntOf, hw, hb', h0, hroom, hns, hnl, h3]
theorem ap_grow (ht : P.underlying t = some (.slice e)) (hi : P.info? e = some i) (hz : i.zero = some z) (hx : ApArg P w i z u x n news) (hgrow : sCap < sLen + n) (hneed : sLen + n ≤ 2000000) (hb : i.bytes ≤ 1000) {olds : List Value}
    (hold : ∀ w', w'.heap = w.heap → (Builtin.firstCells i.size sLen (.slice base sLen sCap)).run P w' = .ok olds.toArray w') :
    (Builtin.append_ #[t, u] ty #[.slice base sLen sCap, x]).run P w = .ok (.slice (some ⟨w.heap.size, 0, none⟩) (sLen + n) (grownCap w (sLen + n) sCap e))
      (w.drew.alloc (.cells (olds.toArray ++ news.toArray ++ Builtin.zeroCells z.cells (grownCap w (sLen + n) sCap e - (sLen + n))) e)) := by
  have hroom : ¬ (sLen + n ≤ sCap) := by omega
  have h63 : ¬ (9223372036854775807 < (sLen : Int) + (n : Int)) := by omega
  have hfit : Builtin.nextslicecap (sLen + n) sCap * i.bytes ≤ 281474976710656 := growslice_fits hgrow (by
    have : (sLen + n) * i.bytes ≤ 2000000 * 1000 := Nat.mul_le_mul hneed hb
    omega)
  have h48 : ¬ (281474976710656 < Builtin.nextslicecap (sLen + n) sCap * i.bytes) := by omega
  have ho := hold w.drew rfl
  rcases hx with ⟨d, hu, hd, hx⟩ | ⟨k, k', hu, rfl, hn, hb, hnews⟩
  · obtain ⟨h1, _⟩ := hx w rfl
    obtain ⟨_, h2⟩ := hx w.drew rfl
    have hm : (match d with | TypeDesc.int _ => true | _ => false) = false := by cases d <;> first | rfl | exact absurd rfl (hd _)
    simp [Builtin.append_, run_underlying ht, run_underlying hu, sizeOf, typeInfo, zeroValue, hi, hz, hm, h1, h2, hroom, h63, h48, ho, Question.forced, newRow, grownCap]
    congr 2; apply Array.ext'; simp
  · have hw := wrap_small hn
    have hb' := bytes_small hn hb
    have h0 : ¬ ((n : Int) < 0) := by omega
    by_cases hns : n * i.size = 0
    · rw [if_pos hns] at hnews
      simp [Builtin.append_, run_underlying ht, run_underlying hu, sizeOf, typeInfo, zeroValue, hi, hz, asInt, asIntOf, hw, hb', h0, hroom, h63, h48, ho, Question.forced, newRow, grownCap, hns, hnews]
    · rw [if_neg hns] at hnews
      simp [Builtin.append_, run_underlying ht, run_underlying hu, sizeOf, typeInfo, zeroValue, hi, hz, asInt, asIntOf, hw, hb', h0, hroom, h63, h48, ho, Question.forced, newRow, grownCap, hns, hnews]
end
theorem firstCells_slice {h : H} {W : Bas} (R : Rel ν W ρ h w) {sz : Nat} {x0 : V} {u : Value} {l : List V} (hv : cellsOf h sz x0 = some l) (hx : VR ν ρ x0 u) :
    ∃ n us, lenS x0 = some n ∧ l.length = n * sz ∧ VRs ν ρ l us ∧ ∀ w', w'.heap = w.heap → (Builtin.lenOf u).run P w' = .ok n w' ∧ (Builtin.firstCells sz n u).run P w' = .ok us.toArray w' := by
  obtain ⟨p, n, cap, us, rfl, hle, hl, hr, hul, hp0, hc⟩ := cellsOf_some R hv hx
  have hls : lenS x0 = some n := by
    cases x0 <;> simp only [VR] at hx <;> first
      | (cases hx; rfl)
      | (obtain ⟨_, hx⟩ := hx; cases hx; rfl)
      | (obtain ⟨_, _, _, _, _, _, hx, _⟩ := hx; cases hx; rfl)
      | (cases hv; done)
      | (obtain ⟨_, hx, _⟩ := hx; cases hx; done)
      | (obtain ⟨_, _, hx, _⟩ := hx; cases hx; done)
      | (obtain ⟨_, _, _, _, hx⟩ := hx; cases hx; done)
      | (obtain ⟨_, _, _, hx⟩ := hx; cases hx; done)
      | skip
  refine ⟨n, us, hls, hl, hr, fun w' hw' => ⟨by simp [Builtin.lenOf], ?_⟩⟩
  cases p with
  | none =>
    have := hp0 rfl
    subst this
    have hus : us = [] := List.eq_nil_of_length_eq_zero (by simpa using hul)
    subst hus
    simp [Builtin.firstCells]
  | some q =>
    exact run_firstCells_some (P := P) w' sz n q n cap us hul (fun j v hj => by
      have := hc q rfl j v hj
      unfold World.cell? at this ⊢
      rw [hw']; exact this)
theorem objR_pre {cs : Array Value} {e : TypeId} {l : List V} {w' : World} {p : Option BP} {wn : Bool} (hb : w'.heap[w.heap.size]? = some (.cells cs e)) (hl : l.length ≤ cs.size) (hg : ∀ (i : Nat) (v : V), l[i]? = some v → ∃ u, cs[i]? = some u ∧ VR ν ρ v u) : ObjR ν ρ w' w.heap.size 0 cs.size (.c l p wn) :=
  ⟨cs, e, (0, 0), hb, by omega, fun i _ h => by simp at h, hl, fun i v hv => by rw [Nat.zero_add]; exact hg i v hv⟩
section
variable {t u ty e : TypeId} {i : TypeInfo} {z : Value} {x : Value} {n : Nat} {news : List Value} {new : List V} {h h' : H} {W : Bas} {p : V} {s : Value}
theorem e_appTo (R : Rel ν W ρ h w) (ht : P.underlying t = some (.slice e)) (hi : P.info? e = some i) (hz : i.zero = some z) (hzs : z.cells.size = i.size) (hs : VR ν ρ p s) (hx : ApArg P w i z u x n news) (hnl : news.length = n * i.size) (hnew : VRs ν ρ new news)
    (hv : appTo h i.size i.bytes p n new = .ok v h') : ∃ u' w', (Builtin.append_ #[t, u] ty #[s, x]).run P w = .ok u' w' ∧ After ν W h ρ h' v u' w' := by
  by_cases hn0 : n = 0
  · subst hn0
    have hv1 : onSl p (onE p (bcase (isT 6 p) (R1.bad 29) (R1.ok p h)) (fun _ _ => R1.ok p h)) (fun _ _ _ _ => R1.ok p h) = .ok v h' := hv
    have hnn : news = [] := List.eq_nil_of_length_eq_zero (by simpa using hnl)
    subst hnn
    have key : v = p ∧ h' = h ∧ ∃ b l c, s = .slice b l c ∧ l ≤ c := by
      by_cases h1 : ∃ y o s' m, p = .sl y o s' m
      · obtain ⟨y, o, s', m, rfl⟩ := h1
        simp only [VR] at hs
        obtain ⟨_, _, _, _, _, _, hs, hle, _⟩ := hs
        have hv2 : R1.ok (V.sl y o s' m) h = .ok v h' := hv1
        injection hv2 with g1 g2
        exact ⟨g1.symm, g2.symm, _, _, _, hs, hle⟩
      · by_cases h2 : ∃ y o, p = .e y o
        · obtain ⟨y, o, rfl⟩ := h2
          simp only [VR] at hs
          obtain ⟨_, hs⟩ := hs
          have hv2 : R1.ok (V.e y o) h = .ok v h' := hv1
          injection hv2 with g1 g2
          exact ⟨g1.symm, g2.symm, _, _, _, hs, Nat.le_refl _⟩
        · have hv2 : bcase (isT 6 p) (R1.bad 29) (R1.ok p h) = .ok v h' := by
            cases p <;> first | exact hv1 | exact absurd ⟨_, _, _, _, rfl⟩ h1 | exact absurd ⟨_, _, rfl⟩ h2
          obtain ⟨h6, hv3⟩ := bcase_ne hv2 (by simp)
          rw [isT_s0 h6] at hs; simp only [VR] at hs
          injection hv3 with g1 g2
          exact ⟨g1.symm, g2.symm, _, _, _, hs, Nat.le_refl _⟩
    obtain ⟨rfl, rfl, b, l, c, rfl, hle⟩ := key
    exact ⟨_, w, ap_room ht hi hz hx (by omega) (fun q _ => rfl) (fun _ => rfl), ρ, R, by simpa using hs, Ext.refl _ _⟩
  · have hb0 : Nat.beq n 0 = false := by
      cases hb : Nat.beq n 0 with
      | false => rfl
      | true => exact absurd (Nat.eq_of_beq_eq_true hb) hn0
    unfold appTo at hv
    rw [hb0, bcase_f] at hv
    obtain ⟨c1, v1⟩ := bcase_ne hv (by simp)
    obtain ⟨c2, v2⟩ := bcase_ne v1 (by simp)
    obtain ⟨c3, v3⟩ := bcase_ne v2 (by simp)
    obtain ⟨c4, v4⟩ := bcase_ne v3 (by simp)
    have hb := Nat.le_of_ble_eq_true c1
    have hn : n ≤ 1000000 := Nat.le_of_ble_eq_true c2
    have hnw : new.length = n * i.size := lenIs_iff.1 c3
    have hone := hnew.one c4
    -- a new row
    have grow : ∀ (base : Option Addr) (sLen sCap : Nat) (old : List V) (olds : List Value), s = .slice base sLen sCap → sCap < sLen + n → sLen ≤ 1000000 → VRs ν ρ old olds → olds.length = sLen * i.size →
        (∀ w', w'.heap = w.heap → (Builtin.firstCells i.size sLen (.slice base sLen sCap)).run P w' = .ok olds.toArray w') →
        ∃ u' w', (Builtin.append_ #[t, u] ty #[s, x]).run P w = .ok u' w' ∧ Grows w w' ∧ ∃ nn, (∀ (ρ' : Pl) y, ρ' y = some (w.heap.size, 0, nn) → VR ν ρ' (.sl y 0 i.size (sLen + n)) u') ∧ ∀ par wn, ObjR ν ρ w' w.heap.size 0 nn (.c (old ++ new) par wn) := by
      intro base sLen sCap old olds es hg hsl hro hol hold
      subst es
      have hrun := ap_grow (ty := ty) ht hi hz hx hg (by omega) hb hold
      have hge := grownCap_ge w (sLen + n) sCap e
      generalize grownCap w (sLen + n) sCap e = cap at hrun hge
      obtain ⟨d, rfl⟩ : ∃ d, cap = sLen + n + d := ⟨cap - (sLen + n), by omega⟩
      have hcs : (olds.toArray ++ news.toArray ++ Builtin.zeroCells z.cells (sLen + n + d - (sLen + n))).size = (sLen + n + d) * i.size := by
        simp only [Array.size_append, List.size_toArray, size_zeroCells, hzs, hol, hnl, Nat.add_sub_cancel_left]
        rw [Nat.add_mul, Nat.add_mul]
      refine ⟨_, _, hrun, grows_drew _ _, (sLen + n + d) * i.size, fun ρ' y ey => ?_, fun par wn => ?_⟩
      · simp only [VR]; exact ⟨_, _, _, _, _, ey, rfl, by omega, fun _ => ⟨by simp, by omega⟩⟩
      · rw [← hcs]
        refine objR_pre (new_block' _ _) ?_ (fun j vv hj => ?_)
        · rw [hcs, List.length_append, hnw, ← hro.length, hol, Nat.add_mul, Nat.add_mul]; omega
        · obtain ⟨uu, hu, hr⟩ := (hro.app hnew).get hj
          refine ⟨uu, ?_, hr⟩
          have hjl := (List.getElem?_eq_some_iff.1 hu).1
          rw [Array.getElem?_append_left (by simpa using hjl)]
          simpa using hu
    by_cases h1 : ∃ y o s' m, p = .sl y o s' m
    · obtain ⟨y, off, s', m, rfl⟩ := h1
      obtain ⟨d1, v5⟩ := bcase_ne (show bcase (Nat.beq s' i.size) (R1.bad 24) _ = _ from v4) (by simp)
      obtain ⟨l, par, wn, e2, v6⟩ := onC_ne v5 (by simp)
      obtain ⟨hwn, v7⟩ := bcase_ne v6 (by simp)
      obtain ⟨d2, v8⟩ := bcase_ne v7 (by simp)
      obtain ⟨d3, v9⟩ := bcase_ne v8 (by simp)
      subst hwn
      obtain rfl : s' = i.size := Nat.eq_of_beq_eq_true d1
      have hm : m ≤ 1000000 := Nat.le_of_ble_eq_true d2
      have d3' := lenIs_iff.1 d3
      rw [take_eq, drop_eq] at d3'
      have hold' : ((l.drop off).take (m * i.size)).length = m * i.size := d3'
      rw [fresh_eq] at v9
      injection v9 with g1 g2
      rw [take_eq, take_eq, drop_eq, app_eq] at g2
      rw [nx_put, nx_kill] at g1
      simp only [VR] at hs
      obtain ⟨b, c, nn, cap, pp, e3, es, hle, hc⟩ := hs
      obtain ⟨cs, ee, fz, hbk, hsz, hfz, hll, hg⟩ := R.ob y _ e2 b c nn e3
      simp only [List.length_take, List.length_drop] at hold'
      -- the old part
      have hro : VRs ν ρ ((l.drop off).take (m * i.size)) ((cs.toList.drop (c + off)).take (m * i.size)) := by
        refine VRs.of_get (by simp; omega) (fun j vv hj => ?_)
        rw [List.getElem?_take] at hj ⊢
        split at hj
        · rename_i hjm
          rw [if_pos hjm]
          rw [List.getElem?_drop] at hj ⊢
          obtain ⟨uu, hu, hr⟩ := hg _ _ hj
          exact ⟨uu, by rw [Array.getElem?_toList, ← hu, Nat.add_assoc], hr⟩
        · cases hj
      have hol : ((cs.toList.drop (c + off)).take (m * i.size)).length = m * i.size := by simp; omega
      -- the elder is cut short
      have hnle : 1 ≤ n := by omega
      have hWb := R.mine y _ e2 rfl b c nn e3
      have cut : ∀ w', (∀ k, k ≠ b → w'.heap[k]? = w.heap[k]?) → w'.heap.size = w.heap.size → Below W.w0.heap.size W.w0 w' → (∃ cs', w'.heap[b]? = some (.cells cs' ee fz) ∧ cs'.size = cs.size ∧ ∀ j, j < c + off + m * i.size → cs'[j]? = cs[j]?) →
          Rel ν W ρ (put (kill h par) y (some (.c (l.take (off + m * i.size)) none false))) w' ∧ ∀ zz oz c' n', obj (put (kill h par) y (some (.c (l.take (off + m * i.size)) none false))) zz = some oz → ρ zz = some (b, c', n') → zz = y := by
        rintro w' k1 k2 k3 ⟨cs', k4, k5, k6⟩
        refine R.change e2 e3 rfl k1 k2 k3 ⟨cs', ee, fz, k4, by omega, fun j hj => hfz j (by omega), by simp; omega, fun j vv hj => ?_⟩
        rw [List.getElem?_take] at hj
        split at hj
        · rename_i hjm
          obtain ⟨uu, hu, hr⟩ := hg _ _ hj
          exact ⟨uu, by rw [k6 _ (by omega)]; exact hu, hr⟩
        · cases hj
      have hadd : ∀ {w'}, Rel ν W ρ (put (kill h par) y (some (.c (l.take (off + m * i.size)) none false))) w' → Rel ν W ρ (addO (put (kill h par) y (some (.c (l.take (off + m * i.size)) none false))) (.c ((l.drop off).take (m * i.size) ++ new) (some y) true)) w' := by
        intro w' R'
        refine R'.add _ (fun q hq oq eq => ?_) (fun q hq => ?_)
        · obtain rfl := Option.some.inj hq
          rw [obj_put, if_pos rfl] at eq
          obtain rfl := Option.some.inj eq; rfl
        · obtain rfl := Option.some.inj hq
          rw [nx_put, nx_kill]; exact R.dom _ _ e2
      have hidle : ρ (nx h) = none := R.idle
      have hnew_obj : obj (addO (put (kill h par) y (some (.c (l.take (off + m * i.size)) none false))) (.c ((l.drop off).take (m * i.size) ++ new) (some y) true)) (nx h) = some (.c ((l.drop off).take (m * i.size) ++ new) (some y) true) := by
        rw [obj_addO, nx_put, nx_kill, if_pos rfl]
      have hext : ∀ q, Ext h ρ (addO (put (kill h par) y (some (.c (l.take (off + m * i.size)) none false))) (.c ((l.drop off).take (m * i.size) ++ new) (some y) true)) (ρ.put (nx h) q) := fun q =>
        ⟨Pl.le_put hidle, fun k e hk => (by rw [Pl.put_ne _ (fun e' => by rw [e'] at hk; exact Nat.lt_irrefl _ hk)]; exact e), by rw [nx_addO, nx_put, nx_kill]; omega⟩
      subst g1
      rw [← g2]
      by_cases hroom : m + n ≤ cap
      · obtain ⟨rfl, hfit⟩ := hc (by omega)
        have hfit2 : off + (m + n) * i.size ≤ nn := by
          have : (m + n) * i.size ≤ cap * i.size := Nat.mul_le_mul_right _ hroom
          omega
        rw [Nat.add_mul] at hfit2
        have hcell : ∀ j, j < news.length → (w.cell? ⟨b, c + off + m * i.size + 0 + j, none⟩).isSome = true := fun j hj => by
          have : c + off + m * i.size + j < cs.size := by omega
          simp [World.cell?, hbk, this]
        have hfro : ∀ j, j < news.length → w.frozen? ⟨b, c + off + m * i.size + 0 + j, none⟩ = false := fun j hj => by
          have := hfz (c + off + m * i.size + j) (by omega)
          simp only [World.frozen?, hbk, Nat.add_zero]
          rw [Bool.and_eq_false_iff]
          simp only [decide_eq_false_iff_not]
          omega
        have hst := run_storeCells_cells (P := P) b (c + off + m * i.size) news 0 w hcell hfro hone
        rw [Nat.add_zero] at hst
        have hrun := ap_room (ty := ty) ht hi hz hx hroom (base := some ⟨b, c + off, none⟩) (fun q hq => by obtain rfl := Option.some.inj hq; rw [add_at]; exact hst) (fun hq => by cases hq)
        obtain ⟨cs', k1, k2, k3⟩ := setCells_at b news (c + off + m * i.size) w cs ee fz hbk
        obtain ⟨R1', honly⟩ := cut _ (fun k hk => setCells_ne b _ _ w k hk) (setCells_size b _ _ w) (setCells_below hWb _ _ R.below) ⟨cs', k1, k2, fun j hj => by rw [k3, if_neg (by omega)]⟩
        have R2' := hadd R1'
        refine ⟨_, _, by rw [es]; exact hrun, ρ.put (nx h) (b, c + off, nn - off), ?_, ?_, hext _⟩
        · refine R2'.lay hnew_obj hidle (by rw [setCells_size]; exact (R.lt y b c nn e3).1) ⟨cs', ee, fz, k1, by omega, fun j hj => hfz j (by omega), ?_, fun j vv hj => ?_⟩ (fun _ => hWb) (fun zz oz c' n' ez hzy e' => ?_)
          · rw [List.length_append, hnw, List.length_take, List.length_drop]; omega
          · by_cases hjo : j < m * i.size
            · rw [List.getElem?_append_left (by simp; omega)] at hj
              obtain ⟨uu, hu, hr⟩ := hro.get hj
              refine ⟨uu, ?_, hr⟩
              rw [List.getElem?_take, if_pos hjo, List.getElem?_drop, Array.getElem?_toList] at hu
              rw [k3, if_neg (by omega)]; exact hu
            · rw [List.getElem?_append_right (by simp; omega)] at hj
              have hlen : ((l.drop off).take (m * i.size)).length = m * i.size := by simp; omega
              rw [hlen] at hj
              obtain ⟨uu, hu, hr⟩ := hnew.get hj
              have := (List.getElem?_eq_some_iff.1 hu).1
              refine ⟨uu, ?_, hr⟩
              rw [k3, if_pos (by omega), show c + off + j - (c + off + m * i.size) = j - m * i.size by omega]; exact hu
          · rw [obj_addO, nx_put, nx_kill, if_neg hzy] at ez
            left
            rw [honly zz oz c' n' ez e']; rfl
        · simp only [VR]
          refine ⟨b, c + off, nn - off, cap, _, Pl.put_same _ _, rfl, hroom, fun _ => ⟨by simp, by omega⟩⟩
      · obtain ⟨u', w', hrun, hgw, mm, hvr, hob⟩ := grow (some pp) m cap _ _ es (by omega) hm hro hol (fun w'' hw'' => run_firstCells_some (P := P) w'' i.size m pp m cap _ hol (fun j vv hj => by
          have hj2 := (List.getElem?_eq_some_iff.1 hj).1
          rw [hol] at hj2
          have hm0 : m ≠ 0 := fun e => by subst e; simp at hj2
          obtain ⟨rfl, _⟩ := hc (by omega)
          rw [add_at, List.getElem?_take, if_pos hj2, List.getElem?_drop, Array.getElem?_toList] at *
          simp [World.cell?, hw'', hbk, hj]))
        have R1' := (cut w (fun _ _ => rfl) rfl R.below ⟨cs, hbk, rfl, fun _ _ => rfl⟩).1
        have R2' := hadd R1'
        exact ⟨u', w', hrun, ρ.put (nx h) (w.heap.size, 0, mm), R2'.place hgw hnew_obj hidle (hob _ _), hvr _ _ (Pl.put_same _ _), hext _⟩
    · -- from nothing
      have key : ∃ b, s = .slice b 0 0 ∧ R1.ok (V.sl (nx h) 0 i.size n) (addO h (.c new none true)) = .ok v h' := by
        by_cases h2 : ∃ y o, p = .e y o
        · obtain ⟨y, o, rfl⟩ := h2
          simp only [VR] at hs
          obtain ⟨b, hs⟩ := hs
          exact ⟨_, hs, by rw [← fresh_eq h _ (fun y => V.sl y 0 i.size n)]; exact v4⟩
        · have hv2 : bcase (isT 6 p) (R1.bad 28) (fresh h (O.c new none true) (fun y => V.sl y 0 i.size n)) = .ok v h' := by
            cases p <;> first | exact v4 | exact absurd ⟨_, _, _, _, rfl⟩ h1 | exact absurd ⟨_, _, rfl⟩ h2
          obtain ⟨h6, hv3⟩ := bcase_ne hv2 (by simp)
          rw [isT_s0 h6] at hs; simp only [VR] at hs
          exact ⟨_, hs, by rw [← fresh_eq h _ (fun y => V.sl y 0 i.size n)]; exact hv3⟩
      obtain ⟨b, es, hv5⟩ := key
      injection hv5 with g1 g2
      subst g1; subst g2
      obtain ⟨u', w', hrun, hgw, mm, hvr, hob⟩ := grow b 0 0 [] [] es (by omega) (by omega) (by simp [VRs]) (by simp) (fun w'' _ => by
        cases b with
        | none => simp [Builtin.firstCells]
        | some q => exact run_firstCells_some (P := P) w'' i.size 0 q 0 0 [] (by simp) (fun j vv hj => by simp at hj))
      have R2' : Rel ν W ρ (addO h (.c new none true)) w := R.add _ (fun q hq => by cases hq) (fun q hq => by cases hq)
      refine ⟨u', w', hrun, ρ.put (nx h) (w.heap.size, 0, mm), R2'.place (ob := .c new none true) hgw (by rw [obj_addO, if_pos rfl]) R.idle (hob none true), ?_, Pl.le_put R.idle, fun k e hk => (by rw [Pl.put_ne _ (fun e' => by rw [e'] at hk; exact Nat.lt_irrefl _ hk)]; exact e), by rw [nx_addO]; omega⟩
      have := hvr (ρ.put (nx h) (w.heap.size, 0, mm)) (nx h) (Pl.put_same _ _)
      rwa [Nat.zero_add] at this
end
end Ev
end Go.Proofs.Ytlajbngfdbnoiaa
