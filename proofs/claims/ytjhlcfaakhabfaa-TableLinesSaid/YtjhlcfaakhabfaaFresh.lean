/- fresh: a name longer than all that a unit bears or asks for, as a walk. -/
import Derived.Test.YtjhlcfaakhabfaaTabGrowL
import Derived.Test.YtjhlcfaakhabfaaTabSpec
import Derived.WalkSpells
import Derived.WalkLawsBesides
import Derived.LoopTactic
import Derived.Deep.QuietTactic
import Derived.BigQuiet
import Derived.Laws.BytesArg
import Derived.Laws.MakeOwn
namespace Go.Proofs.Ytjhlcfaakhabfaa
open Go.RowKit

/-- So long are its names, bases and faces at most. -/
structure LenAt (m : Nat) (d : Dk) : Prop where
  name : d.name.size ≤ m
  base : d.base.size ≤ m
  faces : ∀ f ∈ d.faces, f.size ≤ m
theorem LenAt.more {m n : Nat} {d : Dk} (h : LenAt m d) (hl : m ≤ n) : LenAt n d := ⟨Nat.le_trans h.name hl, Nat.le_trans h.base hl, fun f hf => Nat.le_trans (h.faces f hf) hl⟩
theorem info_u8 : (Try.prog.info? 5).map (fun i => (i.zero, i.size, i.bytes)) = some (some (.int .u8 0), 1, 1) := by kernel_rfl
theorem made_u8 (x : World) (m : Nat) (hm : m ≤ 1048576) :
    (Instr.makeSlice 78 (.int .i64 ((m : Int) + 1)) (.int .i64 ((m : Int) + 1))).run Try.prog x = .ok (.slice (some ⟨x.heap.size, 0, none⟩) (m + 1) (m + 1)) (x.alloc (.cells (madeCells #[.int .u8 0] (m + 1)) 5)) := by
  obtain ⟨i0, hi, hz0, hz1, hz2⟩ := info_parts info_u8
  have h := run_make (P := Try.prog) x 78 5 i0 (.int .u8 0) Try.underlying78 hi hz0 .i64 .i64 ((m : Int) + 1) ((m : Int) + 1) (by omega) (Int.le_refl _) (by rw [hz2]; omega) (by omega)
  have e : ((m : Int) + 1).toNat = m + 1 := by omega
  rw [e] at h
  simpa [hz1, Value.cells] using h
theorem text_u8 (x : World) (m : Nat) :
    (convert 78 9 (.slice (some ⟨x.heap.size, 0, none⟩) (m + 1) (m + 1))).run Try.prog (x.alloc (.cells (madeCells #[.int .u8 0] (m + 1)) 5)) =
      .ok (.string (strOfNums (List.replicate (m + 1) 0))) (x.alloc (.cells (madeCells #[.int .u8 0] (m + 1)) 5)) := by
  refine run_convert_bytes_arg (P := Try.prog) (w := x.alloc (.cells (madeCells #[.int .u8 0] (m + 1)) 5)) 78 5 Try.underlying78 Try.underlying5 x.heap.size 0 (m + 1) (m + 1) (List.replicate (m + 1) 0) (by simp) (fun i hi => ?_) 9 Try.underlying9
  have hg : (List.replicate (m + 1) (0 : Int)).getD i 0 = 0 := by
    rw [List.getD_eq_getElem?_getD, List.getElem?_replicate]; split <;> rfl
  rw [hg, Nat.zero_add]
  have h := Aid.Has.new x (madeCells #[.int .u8 0] (m + 1)).toList 5
  rw [Array.toArray_toList] at h
  refine h.cell i _ ?_
  rw [Array.getElem?_toList]
  unfold madeCells
  have h1 : i % 1 = 0 := Nat.mod_one i
  simp [hi, h1]

set_option maxRecDepth 100000 in
set_option maxHeartbeats 4000000 in
theorem fresh_is (u : List Dk) (a : Option Addr) (B cap : Nat) (w : World) (hu : UnitAt w B a u) (hB : B ≤ w.heap.size) (hn : u.length ≤ 16) (hL : ∀ d ∈ u, LenAt 1048576 d) (hF : ∀ d ∈ u, d.faces.length ≤ 1048576) :
    Calls Try.prog 29 #[.agg #[.slice a u.length cap]] w fun e w' => ∃ m : Nat, e = .returned (.string (strOfNums (List.replicate (m + 1) 0))) ∧ (∀ d ∈ u, LenAt m d) ∧ Below w.heap.size w w' := by
  have HL := Aid.hid hL; have HF := Aid.hid hF
  have hb1 : Below w.heap.size w (w.alloc (.cells #[.slice a u.length cap] 24)) := (Below.refl _ _).alloc (Nat.le_refl _) _
  have P0 : Aid.Has (w.alloc (.cells #[.slice a u.length cap] 24)) w.heap.size [.slice a u.length cap] 24 := Aid.Has.new _ _ _
  have HU := Aid.hid hu
  clear hu hL hF
  go_enter Try.func29, Try.ntmps29
  try simp only [List.append_eq, List.cons_append, List.nil_append]
  go_wp2_with fail
  obtain ⟨pb, hpb⟩ : ∃ pb, w.heap.size = pb := ⟨_, rfl⟩
  generalize (w.alloc (.cells #[.slice a u.length cap] 24)) = W at *
  rw [hpb] at P0 ⊢
  have hpl := P0.lt
  have PC := Aid.hid (P0.cell 0 _ rfl)
  have HU1 := Aid.hid (HU.out.below hb1 hB)
  have hBW : B ≤ W.heap.size := Nat.le_trans hB hb1.size
  have BW := Aid.hid hb1
  have HPB := Aid.hid hpb
  clear P0 hb1 hpb
  go_loopw [3, 4] (fun vn vi wr => ∃ m k : Nat, vn = .int .i64 m ∧ vi = .int .i64 k ∧ k ≤ u.length ∧ m ≤ 1048576 ∧ Hid (∀ j, j < k → ∀ d, u[j]? = some d → LenAt m d) ∧ Hid (Below W.heap.size W wr)) (fun _ vi _ => u.length - (intOf vi).toNat)
  case atStart => exact ⟨0, 0, rfl, rfl, Nat.zero_le _, by omega, Aid.hid (fun j hj => by omega), Aid.hid (Below.refl _ _)⟩
  case round =>
    obtain ⟨m, k, rfl, rfl, hk, hm, ALL, HB⟩ := hrel
    have cp := (HB.out.cell (p := ⟨pb, 0, none⟩) hpl).trans PC.out
    by_cases hkl : k < u.length
    · have hux := HU1.out.below HB.out hBW
      obtain ⟨d, hd⟩ : ∃ d, u[k]? = some d := ⟨_, List.getElem?_eq_getElem hkl⟩
      have hmem := List.mem_of_getElem? hd
      have HD := Aid.hid hd
      have LD := Aid.hid (HL.out d hmem)
      have l1 : d.name.size ≤ 1048576 := LD.out.name
      have l2 : d.base.size ≤ 1048576 := LD.out.base
      have lf : d.faces.length ≤ 1048576 := HF.out d hmem
      have DF := Aid.hid (hux.decls d hmem)
      obtain ⟨b, off, rfl, hbB, hc⟩ := hux.at_ (by omega)
      have c1 := hc k d hd 1 _ rfl
      have c2 := hc k d hd 2 _ rfl
      clear hux hd hmem hc
      go_wp2_with fail
      go_quiet (fail)
      go_wp2_with fail
      all_goals
        have HQ : Hid (Below W.heap.size W (wr.drewN nq)) := Aid.hid (below_drewN' HB.out nq)
        clear cp c1 c2 HB DF
        generalize wr.drewN nq = wq at HQ ⊢
        go_loopw [3, 5] (fun vn vj wi => ∃ M j : Nat, vn = .int .i64 M ∧ vj = .int .i64 j ∧ j ≤ d.faces.length ∧ M ≤ 1048576 ∧ m ≤ M ∧ d.name.size ≤ M ∧ d.base.size ≤ M ∧ Hid (∀ f ∈ d.faces.take j, f.size ≤ M) ∧ Hid (Below W.heap.size W wi)) (fun _ vj _ => d.faces.length - (intOf vj).toNat)
        case atStart => exact ⟨_, 0, rfl, rfl, Nat.zero_le _, by omega, by omega, by omega, by omega, Aid.hid (by simp), HQ⟩
        case round =>
          clear HQ
          obtain ⟨M, j, rfl, rfl, hj, hM, hm2, hn2, hb2, FA, HB⟩ := hrel
          have cp := (HB.out.cell (p := ⟨pb, 0, none⟩) hpl).trans PC.out
          have hux := HU1.out.below HB.out hBW
          obtain ⟨b', off', hbe, _, hc⟩ := hux.at_ (by omega)
          obtain ⟨rfl, rfl⟩ : b = b' ∧ off = off' := by simpa using hbe
          have c3 := hc k d HD.out 3 _ rfl
          have DF := hux.decls d (List.mem_of_getElem? HD.out)
          clear hux hc hbe
          by_cases hjl : j < d.faces.length
          · obtain ⟨b2, off2, hfa, _, hcf⟩ := DF.face (by omega)
            rw [hfa] at c3
            obtain ⟨f, hf⟩ : ∃ f, d.faces[j]? = some f := ⟨_, List.getElem?_eq_getElem hjl⟩
            have cs := hcf j f hf
            have l3 : f.size ≤ 1048576 := LD.out.faces f (List.mem_of_getElem? hf)
            have NX : Hid (∀ N : Nat, M ≤ N → f.size ≤ N → ∀ g ∈ d.faces.take (j + 1), g.size ≤ N) := Aid.hid (fun N h1 h2 g hg => by
              rw [List.take_add_one, hf] at hg
              rcases List.mem_append.1 hg with hg | hg
              · exact Nat.le_trans (FA.out g hg) h1
              · have : g = f := by simpa using hg
                exact this ▸ h2)
            clear DF hfa hcf hf
            by_cases hMf : M < f.size
            · go_wp2_with fail
              go_roundw
              case rel => exact ⟨f.size, j + 1, by first | rfl | simp [hMf], by go_num, by omega, by omega, by omega, by omega, by omega, Aid.hid (NX.out _ (by omega) (by omega)), HB⟩
              case measure => simp [intOf]; omega
            · go_wp2_with fail
              go_roundw
              case rel => exact ⟨M, j + 1, by first | rfl | simp [hMf], by go_num, by omega, by omega, by omega, by omega, by omega, Aid.hid (NX.out _ (by omega) (by omega)), HB⟩
              case measure => simp [intOf]; omega
          · have AL2 : Hid (∀ i, i < k + 1 → ∀ e, u[i]? = some e → LenAt M e) := Aid.hid (fun i hi e he => by
              rcases Nat.lt_or_ge i k with h | h
              · exact (ALL.out i h e he).more hm2
              · obtain rfl : i = k := by omega
                rw [HD.out] at he
                obtain rfl := Option.some.inj he
                exact ⟨hn2, hb2, fun f hf => FA.out f (by rwa [List.take_of_length_le (by omega)])⟩)
            clear DF
            go_wp2_with fail
            go_roundw
            case rel => exact ⟨M, k + 1, rfl, by go_num, by omega, by omega, AL2, HB⟩
            case measure => simp [intOf]; omega
    · have hmk := made_u8 wr m hm
      have hcv := text_u8 wr m
      have AL2 : Hid (∀ d ∈ u, LenAt m d) := Aid.hid (fun d hd => by
        obtain ⟨i, hi⟩ := List.getElem?_of_mem hd
        exact ALL.out i (by have := (List.getElem?_eq_some_iff.1 hi).1; omega) d hi)
      have FB : Hid (Below w.heap.size w (wr.alloc (.cells (madeCells #[.int .u8 0] (m + 1)) 5))) := Aid.hid ((BW.out.trans (HB.out.mono BW.out.size)).alloc (Nat.le_trans BW.out.size HB.out.size) _)
      go_wp2_with fail
      go_ret
      exact ⟨m, rfl, AL2.out, FB.out⟩
end Go.Proofs.Ytjhlcfaakhabfaa
