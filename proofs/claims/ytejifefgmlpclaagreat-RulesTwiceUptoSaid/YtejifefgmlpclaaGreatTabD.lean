/- The interfaces of a class, in plain Lean. -/
import Derived.Test.YtejifefgmlpclaaGreatTabC
set_option linter.unusedSimpArgs false
set_option linter.unusedVariables false
namespace Go.Proofs.YtejifefgmlpclaaGreat

def Tb.facesOf (u : List Dk) (d : Int) : List ByteArray := match u[d.toNat]? with | some x => x.faces | none => []
def Tb.addFace (u : List Dk) (l : List Int) (s : ByteArray) : List Int := if Tb.kind u (Tb.find u s) = 1 ∧ Tb.find u s ∉ l then l ++ [Tb.find u s] else l
def Tb.faces (u : List Dk) (d : Int) : List Int := (Tb.chain u d).foldl (fun l c => (Tb.facesOf u c).foldl (Tb.addFace u) l) []
/-- What the walk keeps of the list. -/
structure Tb.FacesAt (u : List Dk) (l : List Int) : Prop where
  nodup : l.Nodup
  inn : ∀ x ∈ l, 0 ≤ x ∧ x < u.length ∧ Tb.kind u x = 1
theorem Tb.FacesAt.len {u : List Dk} {l : List Int} (h : Tb.FacesAt u l) : l.length ≤ u.length := Tb.nodup_len _ _ h.nodup (fun x hx => ⟨(h.inn x hx).1, (h.inn x hx).2.1⟩)
theorem Tb.FacesAt.add {u : List Dk} {l : List Int} (h : Tb.FacesAt u l) (s : ByteArray) : Tb.FacesAt u (Tb.addFace u l s) := by
  unfold Tb.addFace
  by_cases hc : Tb.kind u (Tb.find u s) = 1 ∧ Tb.find u s ∉ l
  · rw [if_pos hc]
    refine ⟨?_, fun x hx => ?_⟩
    · rw [List.nodup_append]
      exact ⟨h.nodup, by simp, fun a ha b hb => by
        have : b = Tb.find u s := by simpa using hb
        subst this
        exact fun e => hc.2 (e ▸ ha)⟩
    · rcases List.mem_append.1 hx with hx | hx
      · exact h.inn x hx
      · have : x = Tb.find u s := by simpa using hx
        subst this
        obtain ⟨i, y, e, _, _, hi⟩ := Tb.kind_in hc.1 (by decide)
        rw [e] at hc ⊢
        exact ⟨by omega, by omega, hc.1⟩
  · rw [if_neg hc]; exact h
theorem Tb.FacesAt.addAll {u : List Dk} : ∀ (fs : List ByteArray) (l : List Int), Tb.FacesAt u l → Tb.FacesAt u (fs.foldl (Tb.addFace u) l)
  | [], _, h => h
  | s :: fs, l, h => Tb.FacesAt.addAll fs _ (h.add s)
theorem Tb.FacesAt.all {u : List Dk} : ∀ (cs : List Int) (l : List Int), Tb.FacesAt u l → Tb.FacesAt u (cs.foldl (fun l c => (Tb.facesOf u c).foldl (Tb.addFace u) l) l)
  | [], _, h => h
  | c :: cs, l, h => Tb.FacesAt.all cs _ (Tb.FacesAt.addAll _ _ h)
theorem Tb.faces_at (u : List Dk) (d : Int) : Tb.FacesAt u (Tb.faces u d) := Tb.FacesAt.all _ _ ⟨List.nodup_nil, by simp⟩
theorem Tb.take_fold {α β : Type} (f : β → α → β) (b : β) (l : List α) (k : Nat) (x : α) (h : l[k]? = some x) : (l.take (k + 1)).foldl f b = f ((l.take k).foldl f b) x := by
  rw [List.take_add_one, h]
  simp [List.foldl_append]
end Go.Proofs.YtejifefgmlpclaaGreat
/- Faces, as a walk. -/
namespace Go.Proofs.YtejifefgmlpclaaGreat
open Go.RowKit

set_option maxRecDepth 100000 in
set_option maxHeartbeats 4000000 in
theorem faces_any (u : List Dk) (a : Option Addr) (B cap : Nat) (d0 : Int) (w : World) (hu : UnitAt w B a u) (hB : B ≤ w.heap.size) :
    Calls Tryz.prog 58 #[.agg #[.slice a u.length cap], .int .i64 d0] w fun e w' => ∃ A c zs, e = .returned (.slice A zs.length c) ∧ zs = Tb.faces u d0 ∧
      w'.ownsRow w.heap.size 3 1 (.slice A zs.length c) zs.length (zs.map (Value.int .i64)) ∧ Below w.heap.size w w' := by
  have HU := Aid.hid hu
  have sm := hu.small
  clear hu
  have B0 : Below w.heap.size w (w.alloc (.cells #[.slice a u.length cap] 24)) := (Below.refl _ _).alloc (Nat.le_refl _) _
  have P0 : Aid.Has (w.alloc (.cells #[.slice a u.length cap] 24)) w.heap.size [.slice a u.length cap] 24 := Aid.Has.new _ _ _
  go_enter Tryz.func58, Tryz.ntmps58
  try simp only [List.append_eq, List.cons_append, List.nil_append]
  obtain ⟨i0, hi, hz0, hz1, hz2⟩ := info_parts info_int
  go_wp2_with fail
  obtain ⟨pb, hpb⟩ : ∃ pb, w.heap.size = pb := ⟨_, rfl⟩
  generalize (w.alloc (.cells #[.slice a u.length cap] 24)) = w1 at *
  rw [hpb] at P0 ⊢
  obtain ⟨zs, hzs⟩ : ∃ zs, Tb.chain u d0 = zs := ⟨_, rfl⟩
  have HZ := Aid.hid hzs
  clear hzs
  refine (chain_is u a B cap d0 zs w1 HZ.out (HU.out.below B0 hB) (Nat.le_trans hB B0.size)).mono ?_; rintro e W ⟨A, c, rfl, ow, hb1⟩
  have I1 := Aid.hid (IntsAt.of_own ow)
  have P1 := P0.below hb1 P0.lt
  have HU1 := Aid.hid ((HU.out.below B0 hB).below hb1 (Nat.le_trans hB B0.size))
  have BW := Aid.hid (B0.trans (hb1.mono B0.size))
  have hBW : B ≤ W.heap.size := Nat.le_trans hB BW.out.size
  have hpW : pb ≤ W.heap.size := Nat.le_of_lt P1.lt
  have hpl := P1.lt
  have PC := Aid.hid (P1.cell 0 _ rfl)
  have PF := Aid.hid (P1.frozen 0)
  have lz : zs.length ≤ 1000000000 := by have := Tb.chain_len u d0; rw [HZ.out] at this; omega
  clear B0 P0 hb1 ow P1
  have cp := PC.out
  go_wp2_with fail
  clear cp
  go_loopw [5, 15] (fun vl vi wr => ∃ (k : Nat) (A' : Option Addr) (c' : Nat) (l : List Int), vi = .int .i64 k ∧ k ≤ zs.length ∧ vl = .slice A' l.length c' ∧ Hid (l = (zs.take k).foldl (fun l c => (Tb.facesOf u c).foldl (Tb.addFace u) l) []) ∧ Hid (Tb.FacesAt u l) ∧
      Hid (wr.ownsRow W.heap.size 3 1 (.slice A' l.length c') l.length (l.map (Value.int .i64))) ∧ Below W.heap.size W wr) (fun _ vi _ => zs.length - (intOf vi).toNat)
  case atStart => exact ⟨0, none, 0, [], rfl, Nat.zero_le _, rfl, Aid.hid rfl, Aid.hid ⟨List.nodup_nil, by simp⟩, Aid.hid (World.ownsRow_nil _ _ _ _), Below.refl _ _⟩
  case round =>
    obtain ⟨k, A', c', l, rfl, hk, rfl, EL, FA, O, hb⟩ := hrel
    by_cases hlt : k < zs.length
    · obtain ⟨ad, rfl, _, hc⟩ := IntsAt.at_ (show IntsAt _ _ _ _ from Reads.below I1.out hb) hlt
      obtain ⟨z, hz⟩ : ∃ z, zs[k]? = some z := ⟨_, List.getElem?_eq_getElem hlt⟩
      have cz := hc k z hz
      obtain ⟨i, x, rfl, hx, _, hil⟩ := Tb.kind_in (Tb.chain_in u d0 z (by rw [HZ.out]; exact List.mem_of_getElem? hz)).2.2 (by decide)
      have EF : Hid (Tb.facesOf u i = x.faces) := Aid.hid (by unfold Tb.facesOf; simp [hx])
      have TK : Hid ((zs.take (k + 1)).foldl (fun l c => (Tb.facesOf u c).foldl (Tb.addFace u) l) [] = x.faces.foldl (Tb.addFace u) l) := Aid.hid (by rw [Tb.take_fold _ _ _ _ _ hz, EF.out, ← EL.out])
      have HX := Aid.hid (List.mem_of_getElem? hx)
      have cp := (hb.cell (p := ⟨pb, 0, none⟩) hpl).trans PC.out
      have HU2 := HU1.out.below hb hBW
      obtain ⟨b, off, rfl, _, hcu⟩ := HU2.at_ (by omega)
      have cf := hcu i x hx 3 _ rfl
      have sf := (HU2.decls x HX.out).smallF
      clear hc hcu HU2 hz hx
      go_wp2_with fail
      clear cz cf cp
      go_loopw [5, 26] (fun vl vj wi => ∃ (j : Nat) (A2 : Option Addr) (c2 : Nat) (l2 : List Int), vj = .int .i64 j ∧ j ≤ x.faces.length ∧ vl = .slice A2 l2.length c2 ∧ Hid (l2 = (x.faces.take j).foldl (Tb.addFace u) l) ∧ Hid (Tb.FacesAt u l2) ∧
          Hid (wi.ownsRow W.heap.size 3 1 (.slice A2 l2.length c2) l2.length (l2.map (Value.int .i64))) ∧ Below W.heap.size W wi) (fun _ vj _ => x.faces.length - (intOf vj).toNat)
      case atStart => exact ⟨0, A', c', l, rfl, Nat.zero_le _, rfl, Aid.hid rfl, FA, O, hb⟩
      case round =>
        clear O hb
        obtain ⟨j, A2, c2, l2, rfl, hj, rfl, EL2, FA2, O, hb⟩ := hrel
        have LN : l2.length ≤ 1000000000 := by have := FA2.out.len; omega
        by_cases hjl : j < x.faces.length
        · obtain ⟨s, hs⟩ : ∃ s, x.faces[j]? = some s := ⟨_, List.getElem?_eq_getElem hjl⟩
          have cp := (hb.cell (p := ⟨pb, 0, none⟩) hpl).trans PC.out
          have HU2 := HU1.out.below hb hBW
          obtain ⟨b2, off2, hfa, _, hcf⟩ := (HU2.decls x HX.out).face (by omega)
          rw [hfa]
          have cs := hcf j s hs
          have TK2 : Hid ((x.faces.take (j + 1)).foldl (Tb.addFace u) l = Tb.addFace u l2 s) := Aid.hid (by rw [Tb.take_fold _ _ _ _ _ hs, ← EL2.out])
          have FA3 : Hid (Tb.FacesAt u (Tb.addFace u l2 s)) := Aid.hid (FA2.out.add s)
          obtain ⟨f, hf⟩ : ∃ f, Tb.find u s = f := ⟨_, rfl⟩
          obtain ⟨kf, hkf⟩ : ∃ kf, Tb.kind u f = kf := ⟨_, rfl⟩
          have HF := Aid.hid hf
          have HK := Aid.hid hkf
          clear hcf hs hf hkf HU2
          go_wp2_with fail
          refine (find_is u _ B cap s f _ HF.out (HU1.out.below hb hBW) (Nat.le_trans hBW hb.size)).mono ?_; rintro e w2 ⟨rfl, hb2⟩
          replace O : Hid (w2.ownsRow W.heap.size 3 1 (.slice A2 l2.length c2) l2.length (l2.map (Value.int .i64))) := Aid.hid (own_stays O.out hb2)
          replace hb := hb.trans (hb2.mono hb.size)
          clear hb2 cp cs
          have cp := (hb.cell (p := ⟨pb, 0, none⟩) hpl).trans PC.out
          go_wp2_with fail
          refine (kind_is u _ B cap f kf _ HK.out (HU1.out.below hb hBW) (Nat.le_trans hBW hb.size)).mono ?_; rintro e w3 ⟨rfl, hb2⟩
          replace O : Hid (w3.ownsRow W.heap.size 3 1 (.slice A2 l2.length c2) l2.length (l2.map (Value.int .i64))) := Aid.hid (own_stays O.out hb2)
          replace hb := hb.trans (hb2.mono hb.size)
          clear hb2 cp
          by_cases hk1 : kf = 1
          · subst hk1
            obtain ⟨r, hr⟩ : ∃ r, decide (f ∈ l2) = r := ⟨_, rfl⟩
            have HR := Aid.hid hr
            clear hr
            go_wp2_with fail
            refine (contains_is A2 c2 _ l2 f r _ HR.out (IntsAt.of_own O.out) LN).mono ?_; rintro e w4 ⟨rfl, rfl⟩
            cases r
            · have EA : Hid (Tb.addFace u l2 s = l2 ++ [f]) := Aid.hid (by unfold Tb.addFace; rw [HF.out, if_pos ⟨HK.out, of_decide_eq_false HR.out⟩])
              go_wp2_with (at_builtin; refine wpList_append_own _ rfl _ _ 62 rfl W.heap.size 3 i0 (.int .i64 0) 1 8 Tryz.underlying62 hi hz0 hz1 hz2 rfl (by decide) _ _ _ rfl (O.out.alloc _) ⟨w3.heap.size, 0, none⟩ 1 1 [.int .i64 f] rfl rfl ?c1 ?c2 ?c3 ?c4 ?c5 ?_)
              case c1 =>
                intro j q hj
                match j, hj with
                | 0, hj => simp at hj; subst hj; simp [Addr.add]
              case c2 => intro q hq; simp at hq; subst hq; rfl
              case c3 => unfold maxLen; omega
              case c4 => omega
              case c5 => have := hb.size; simp; omega
              · intro v' w5 hown' hgrow _
                have hb5 : Below W.heap.size W w5 := (hb.alloc hb.size _).grown hgrow (by have := hb.size; simp; omega) (fun q hq => (O.out.lt q hq).1)
                obtain ⟨g, cap', rfl, _, _⟩ := hown'.form (by omega)
                have O5 := Aid.hid hown'
                clear hb hgrow O hown'
                go_wp2_with fail
                go_roundw
                case rel => exact ⟨j + 1, some ⟨g, 0, none⟩, cap', l2 ++ [f], by go_num, by omega, by simp, Aid.hid (by rw [TK2.out, EA.out]), Aid.hid (by rw [← EA.out]; exact FA3.out), Aid.hid (by simpa using O5.out), hb5⟩
                case measure => simp [intOf]; omega
            · have EA : Hid (Tb.addFace u l2 s = l2) := Aid.hid (by unfold Tb.addFace; rw [HF.out, if_neg (fun h => h.2 (of_decide_eq_true HR.out))])
              go_wp2_with fail
              go_roundw
              case rel => exact ⟨j + 1, A2, c2, l2, by go_num, by omega, rfl, Aid.hid (by rw [TK2.out, EA.out]), FA2, O, hb⟩
              case measure => simp [intOf]; omega
          · have EA : Hid (Tb.addFace u l2 s = l2) := Aid.hid (by unfold Tb.addFace; rw [HF.out, if_neg (fun h => hk1 (HK.out.symm.trans h.1))])
            have hk3 : (kf == 1) = false := by simpa using hk1
            go_wp2_with fail
            go_roundw
            case rel => exact ⟨j + 1, A2, c2, l2, by go_num, by omega, rfl, Aid.hid (by rw [TK2.out, EA.out]), FA2, O, hb⟩
            case measure => simp [intOf]; omega
        · have EE : Hid (l2 = (zs.take (k + 1)).foldl (fun l c => (Tb.facesOf u c).foldl (Tb.addFace u) l) []) := Aid.hid (by rw [TK.out, EL2.out, List.take_of_length_le (by omega)])
          go_wp2_with fail
          go_roundw
          case rel => exact ⟨k + 1, A2, c2, l2, by go_num, by omega, rfl, EE, FA2, O, hb⟩
          case measure => simp [intOf]; omega
    · have EE : Hid (l = Tb.faces u d0) := Aid.hid (by rw [EL.out, List.take_of_length_le (by omega)]; unfold Tb.faces; rw [HZ.out])
      go_wp2_with fail
      go_ret
      exact ⟨A', c', l, rfl, EE.out, by rw [hpb]; exact own_lower O.out hpW, BW.out.trans (hb.mono BW.out.size)⟩
theorem faces_is (u : List Dk) (a : Option Addr) (B cap : Nat) (d0 : Int) (zs : List Int) (w : World) (hz : Tb.faces u d0 = zs) (hu : UnitAt w B a u) (hB : B ≤ w.heap.size) :
    Calls Tryz.prog 58 #[.agg #[.slice a u.length cap], .int .i64 d0] w fun e w' => ∃ A c, e = .returned (.slice A zs.length c) ∧
      w'.ownsRow w.heap.size 3 1 (.slice A zs.length c) zs.length (zs.map (Value.int .i64)) ∧ Below w.heap.size w w' := by
  subst hz
  refine (faces_any u a B cap d0 w hu hB).mono ?_
  rintro e w' ⟨A, c, zs, rfl, rfl, h⟩
  exact ⟨A, c, rfl, h⟩
end Go.Proofs.YtejifefgmlpclaaGreat
