/- The law TableGrows. -/
import Derived.Test.YtjhlcfaakhabfaaTableTells
import Derived.Test.YtjhlcfaakhabfaaGrowMem
import Derived.Test.YtjhlcfaakhabfaaOpenBulk
import Derived.Test.YtjhlcfaakhabfaaOrd
namespace Go.Proofs.Ytjhlcfaakhabfaa
open Go.RowKit

theorem info_decl : (Try.prog.info? 32).map (fun i => (i.zero, i.size, i.bytes)) = some (some (.agg #[.int .i64 0, .string ⟨#[]⟩, .string ⟨#[]⟩, .slice none 0 0, .bool false, .bool false, .slice none 0 0, .slice none 0 0, .slice none 0 0, .int .i64 0, .int .i64 0]), 11, 160) := by kernel_rfl
set_option maxRecDepth 100000 in
set_option maxHeartbeats 4000000 in
theorem tableGrows_big (u : List Dk) (a : Option Addr) (cap : Nat) (kind d : Int) (s t : ByteArray) (w : World) (hn : 16 < u.length) :
    Calls Try.prog 7 #[.agg #[.slice a u.length cap], .int .i64 kind, .int .i64 d, .string s, .string t] w fun e w' => e = .returned (.bool true) ∧ Below w.heap.size w w' := by
  have HB1 : Hid (Below w.heap.size w (w.alloc (.cells #[.slice a u.length cap] 24))) := Aid.hid ((Below.refl _ _).alloc (Nat.le_refl _) _)
  have P0 := Aid.hid (Aid.Has.new w [.slice a u.length cap] 24)
  go_enter Try.func7, Try.ntmps7
  try simp only [List.append_eq, List.cons_append, List.nil_append]
  go_wp2_with fail
  refine (greatUnit_big a u.length cap _ hn).mono ?_; rintro e w2 ⟨rfl, hb2⟩
  have HB2 := Aid.hid (HB1.out.trans (hb2.mono HB1.out.size))
  clear hb2
  go_wp2_with fail
  refine (awake_any _).mono ?_; rintro e w3 ⟨rfl, hb3⟩
  have HB3 := Aid.hid (HB2.out.trans (hb3.mono HB2.out.size))
  clear hb3
  go_wp2_with fail
  go_ret
  exact ⟨rfl, HB3.out⟩
set_option maxRecDepth 100000 in
set_option maxHeartbeats 4000000 in
theorem tableGrows_longA (u : List Dk) (a : Option Addr) (cap : Nat) (kind d : Int) (s t : ByteArray) (w : World) (hu : UnitAt w w.heap.size a u) (hn : u.length ≤ 16) (hs : 60 < s.size) :
    Calls Try.prog 7 #[.agg #[.slice a u.length cap], .int .i64 kind, .int .i64 d, .string s, .string t] w fun e w' => e = .returned (.bool true) ∧ Below w.heap.size w w' := by
  have HB1 : Hid (Below w.heap.size w (w.alloc (.cells #[.slice a u.length cap] 24))) := Aid.hid ((Below.refl _ _).alloc (Nat.le_refl _) _)
  have P0 := Aid.hid (Aid.Has.new w [.slice a u.length cap] 24)
  have HU := Aid.hid hu
  have a60 : decide ((60 : Int) < (s.size : Int)) = true := decide_eq_true (by omega)
  clear hu
  go_enter Try.func7, Try.ntmps7
  try simp only [List.append_eq, List.cons_append, List.nil_append]
  go_wp2_with fail
  generalize hW : w.alloc (.cells #[.slice a u.length cap] 24) = W at *
  clear hW
  have hu1 := HU.out.below HB1.out (Nat.le_refl _)
  refine (greatUnit_is u a w.heap.size cap W hu1 HB1.out.size hn).mono ?_; rintro e w2 ⟨r, rfl, hb2⟩
  have HB2 := Aid.hid (HB1.out.trans (hb2.mono HB1.out.size))
  clear hb2 hu1
  cases r
  all_goals
    go_wp2_with fail
    refine (awake_any _).mono ?_; rintro e w3 ⟨rfl, hb3⟩
    have HB3 := Aid.hid (HB2.out.trans (hb3.mono HB2.out.size))
    clear hb3
    go_wp2_with fail
    go_ret
    exact ⟨rfl, HB3.out⟩
set_option maxRecDepth 100000 in
set_option maxHeartbeats 4000000 in
theorem tableGrows_longB (u : List Dk) (a : Option Addr) (cap : Nat) (kind d : Int) (s t : ByteArray) (w : World) (hu : UnitAt w w.heap.size a u) (hn : u.length ≤ 16) (hs : s.size ≤ 60) (ht : 60 < t.size) :
    Calls Try.prog 7 #[.agg #[.slice a u.length cap], .int .i64 kind, .int .i64 d, .string s, .string t] w fun e w' => e = .returned (.bool true) ∧ Below w.heap.size w w' := by
  have HB1 : Hid (Below w.heap.size w (w.alloc (.cells #[.slice a u.length cap] 24))) := Aid.hid ((Below.refl _ _).alloc (Nat.le_refl _) _)
  have P0 := Aid.hid (Aid.Has.new w [.slice a u.length cap] 24)
  have HU := Aid.hid hu
  have a60 : decide ((60 : Int) < (s.size : Int)) = false := decide_eq_false (by omega)
  have b60 : decide ((60 : Int) < (t.size : Int)) = true := decide_eq_true (by omega)
  clear hu
  go_enter Try.func7, Try.ntmps7
  try simp only [List.append_eq, List.cons_append, List.nil_append]
  go_wp2_with fail
  generalize hW : w.alloc (.cells #[.slice a u.length cap] 24) = W at *
  clear hW
  have hu1 := HU.out.below HB1.out (Nat.le_refl _)
  refine (greatUnit_is u a w.heap.size cap W hu1 HB1.out.size hn).mono ?_; rintro e w2 ⟨r, rfl, hb2⟩
  have HB2 := Aid.hid (HB1.out.trans (hb2.mono HB1.out.size))
  clear hb2 hu1
  cases r
  all_goals
    go_wp2_with fail
    refine (awake_any _).mono ?_; rintro e w3 ⟨rfl, hb3⟩
    have HB3 := Aid.hid (HB2.out.trans (hb3.mono HB2.out.size))
    clear hb3
    go_wp2_with fail
    go_ret
    exact ⟨rfl, HB3.out⟩
set_option maxRecDepth 100000 in
set_option maxHeartbeats 4000000 in
theorem tableGrows_main (u : List Dk) (a : Option Addr) (cap : Nat) (kind d : Int) (s t : ByteArray) (w : World) (hu : UnitAt w w.heap.size a u) (hn : u.length ≤ 16) (hM : ∀ x ∈ u, BulkAt 1048576 x) (hs : s.size ≤ 60) (ht : t.size ≤ 60) :
    Calls Try.prog 7 #[.agg #[.slice a u.length cap], .int .i64 kind, .int .i64 d, .string s, .string t] w fun e w' => e = .returned (.bool true) ∧ Below w.heap.size w w' := by
  obtain ⟨i0, hi, hz0, hz1, hz2⟩ := info_parts info_decl
  have HB1 : Hid (Below w.heap.size w (w.alloc (.cells #[.slice a u.length cap] 24))) := Aid.hid ((Below.refl _ _).alloc (Nat.le_refl _) _)
  have P0 := Aid.hid (Aid.Has.new w [.slice a u.length cap] 24)
  have HU := Aid.hid hu
  have HM : Hid (∀ x ∈ u, x.vs.length ≤ 1048576) := Aid.hid fun x hx => (hM x hx).vars
  have HL : Hid (∀ x ∈ u, LenAt 1048576 x) := Aid.hid fun x hx => ⟨(hM x hx).name, (hM x hx).base, (hM x hx).faces⟩
  have HF : Hid (∀ x ∈ u, x.faces.length ≤ 1048576) := Aid.hid fun x hx => (hM x hx).many
  have a60 : decide ((60 : Int) < (s.size : Int)) = false := decide_eq_false (by omega)
  have b60 : decide ((60 : Int) < (t.size : Int)) = false := decide_eq_false (by omega)
  obtain ⟨nr, hnr, lr⟩ : ∃ r : Nat, low d ((u.length : Int) + 1) = r ∧ (r : Int) < u.length + 1 := by
    obtain ⟨h1, h2⟩ := low_in d ((u.length : Int) + 1) (by omega)
    obtain ⟨r, hr⟩ := Int.eq_ofNat_of_zero_le h1
    exact ⟨r, hr, by omega⟩
  have LR := Aid.hid hnr
  clear hnr hu hM
  go_enter Try.func7, Try.ntmps7
  try simp only [List.append_eq, List.cons_append, List.nil_append]
  go_wp2_with fail
  obtain ⟨pb, hpb⟩ : ∃ pb, w.heap.size = pb := ⟨_, rfl⟩
  have HPB := Aid.hid hpb
  rw [hpb] at P0 ⊢
  clear hpb
  generalize w.alloc (.cells #[.slice a u.length cap] 24) = W at *
  have hpl := P0.out.lt
  have hu1 := HU.out.below HB1.out (Nat.le_refl _)
  refine (greatUnit_is u a w.heap.size cap W hu1 HB1.out.size hn).mono ?_; rintro e w2 ⟨r, rfl, hb2⟩
  have HB2 := Aid.hid hb2
  have p0 := (P0.out.below hb2 hpl).cell 0 _ rfl
  clear hb2 hu1
  cases r
  · go_wp2_with fail
    have HUW := Aid.hid (HU.out.below HB1.out (Nat.le_refl _))
    have hBW := HB1.out.size
    refine (fresh_is u a w.heap.size cap w2 (HUW.out.below HB2.out hBW) (Nat.le_trans hBW HB2.out.size) hn HL.out HF.out).mono ?_; rintro e w3 ⟨m, rfl, hlen, hb3⟩
    have FR := Aid.hid (fresh_of hlen)
    generalize strOfNums (List.replicate (m + 1) 0) = nm at FR ⊢
    have HB3 := Aid.hid (HB2.out.trans (hb3.mono HB2.out.size))
    clear hb3 hlen p0 HB2
    have p0 := (P0.out.below HB3.out hpl).cell 0 _ rfl
    cases hsn : (s.toList == nm.toList)
    · cases htn : (t.toList == nm.toList)
      · have R1 : Reads w3 w.heap.size 11 a u.length (u.map Dk.cells).flatten := by
          have h := Rows.reads (Dk.len u) ((HUW.out.below HB3.out hBW)).rows
          rwa [List.length_map] at h
        have z3 : W.heap.size ≤ w3.heap.size := HB3.out.size
        go_wp2_with (at_builtin; refine wpList_append_any _ rfl _ _ 22 rfl W.heap.size 32 i0 (.agg #[.int .i64 0, .string ⟨#[]⟩, .string ⟨#[]⟩, .slice none 0 0, .bool false, .bool false, .slice none 0 0, .slice none 0 0, .slice none 0 0, .int .i64 0, .int .i64 0]) 11 160 Try.underlying22 hi hz0 hz1 hz2 rfl (by decide) _ _ _ rfl (World.ownsRow_nil _ _ _ _) w.heap.size a u.length cap _ rfl R1 (Dk.one (l := u)) ?c1 ?c2 z3 ?_)
        case c1 => unfold maxLen; omega
        case c2 => omega
        · intro v1 w4 hown1 hgrow1 _
          (try simp only [Nat.zero_add, List.nil_append] at hown1)
          obtain ⟨A1, c1, rfl⟩ := own_slice hown1
          have HB4 := Aid.hid (HB3.out.grown hgrow1 z3 (fun q hq => by simp [Value.ownBlock] at hq))
          have O1 := Aid.hid hown1
          clear hown1 hgrow1 R1 p0 z3
          have z4 : W.heap.size ≤ w4.heap.size := HB4.out.size
          have bc : ∀ (j : Nat) (x : Value), (Dk.bare kind nm).cells[j]? = some x → (w4.alloc (.cells (Dk.bare kind nm).cells.toArray 32)).cell? (Addr.add ⟨w4.heap.size, 0, none⟩ j) = some x := fun j x hj => by
            rw [Go.WideShapes.add_plain, Nat.zero_add]
            exact (Aid.Has.new w4 (Dk.bare kind nm).cells 32).cell j x hj
          go_wp2_with (at_builtin; refine wpList_append_own _ rfl _ _ 22 rfl W.heap.size 32 i0 (.agg #[.int .i64 0, .string ⟨#[]⟩, .string ⟨#[]⟩, .slice none 0 0, .bool false, .bool false, .slice none 0 0, .slice none 0 0, .slice none 0 0, .int .i64 0, .int .i64 0]) 11 160 Try.underlying22 hi hz0 hz1 hz2 rfl (by decide) _ _ _ rfl (O1.out.alloc _) ⟨w4.heap.size, 0, none⟩ 1 1 (Dk.bare kind nm).cells rfl rfl bc ?d1 ?d2 ?d3 ?d4 ?_)
          case d1 => exact fun x hx => Dk.one (l := [Dk.bare kind nm]) x (by simpa using hx)
          case d2 => unfold maxLen; omega
          case d3 => omega
          case d4 => simp; omega
          · intro v2 w5 hown2 hgrow2 _
            obtain ⟨A2, c2, rfl⟩ := own_slice hown2
            have HB5 := Aid.hid ((HB4.out.alloc z4 _).grown hgrow2 (by simp; omega) (fun q hq => (O1.out.lt q hq).1))
            have z5 : W.heap.size ≤ w5.heap.size := HB5.out.size
            have hvu := unit_more (kind := kind) (name := nm) (HUW.out.below HB5.out hBW).decls (Nat.le_trans hBW z5) hn hown2
            have e1 := Aid.hid (Tb.find_new (e := Dk.bare kind nm) FR.out)
            obtain ⟨v, hv⟩ : ∃ v, u ++ [Dk.bare kind nm] = v := ⟨_, rfl⟩
            have hvl : u.length + 1 = v.length := by rw [← hv]; simp
            have HVE := Aid.hid hv
            have HV := Aid.hid (hv ▸ hvu)
            have HMV : Hid (∀ x ∈ v, x.vs.length ≤ 1048576) := Aid.hid (fun x hx => by
              rw [← hv] at hx
              rcases List.mem_append.1 hx with h | h
              · exact HM.out x h
              · have : x = Dk.bare kind nm := by simpa using h
                subst this
                exact Nat.zero_le _)
            rw [hvl]
            have hvn : v.length ≤ 20 := by omega
            have V0 := Aid.hid (Aid.Has.new w5 [.slice A2 v.length c2] 24)
            have HB6 := Aid.hid (HB5.out.alloc z5 (.cells #[.slice A2 v.length c2] 24))
            have p0 := (P0.out.below HB6.out hpl).cell 0 _ rfl
            have HVL := Aid.hid hvl
            clear hown2 hgrow2 hvu hv O1 z4 hvl
            go_wp2_with fail
            have HV6 : UnitAt (w5.alloc (.cells #[.slice A2 v.length c2] 24)) w5.heap.size A2 v := HV.out.below ((Below.refl w5.heap.size w5).alloc (Nat.le_refl _) _) (Nat.le_refl _)
            generalize w5.alloc (.cells #[.slice A2 v.length c2] 24) = W6 at V0 HB6 p0 HV6 ⊢
            obtain ⟨pv, hpv⟩ : ∃ p, w5.heap.size = p := ⟨_, rfl⟩
            rw [hpv] at V0 HV6 ⊢
            clear hpv HV HB5 z5 bc HB3 HB4
            refine (low_is d ((u.length : Int) + 1) nr LR.out (by omega) (by omega) _).mono ?_; rintro e w7 ⟨rfl, rfl⟩
            go_wp2_with fail
            have hd1 : (nr : Int) - 1 < u.length := by omega
            generalize ((nr : Int) - 1) = d1 at hd1 ⊢
            have hsn2 : s.toList ≠ nm.toList := by simpa using hsn
            have htn2 : t.toList ≠ nm.toList := by simpa using htn
            obtain ⟨RD, RM, RK, hme⟩ : ∃ RD RM RK, Tb.method u d1 s = (RD, RM, RK) := ⟨_, _, _, rfl⟩
            obtain ⟨ch, hch⟩ : ∃ r, Tb.chain u d1 = r := ⟨_, rfl⟩
            obtain ⟨fs, hfs⟩ : ∃ r, Tb.faces u d1 = r := ⟨_, rfl⟩
            obtain ⟨vs, hvs⟩ : ∃ r, Tb.fields u d1 = r := ⟨_, rfl⟩
            obtain ⟨fnd, hfn⟩ : ∃ r, Tb.find u s = r := ⟨_, rfl⟩
            obtain ⟨ris, his⟩ : ∃ r, Tb.is u s t = r := ⟨_, rfl⟩
            have ME := Aid.hid hme; have CH := Aid.hid hch; have FS := Aid.hid hfs; have VS := Aid.hid hvs; have FN := Aid.hid hfn; have IS := Aid.hid his
            have MEV : Hid (Tb.method v d1 s = (RD, RM, RK)) := Aid.hid (by rw [← HVE.out, Tb.method_more (e := Dk.bare kind nm) FR.out hd1]; exact hme)
            have CHV : Hid (Tb.chain v d1 = ch) := Aid.hid (by rw [← HVE.out, Tb.chain_more (e := Dk.bare kind nm) FR.out hd1]; exact hch)
            have FSV : Hid (Tb.faces v d1 = fs) := Aid.hid (by rw [← HVE.out, Tb.faces_more (e := Dk.bare kind nm) FR.out hd1]; exact hfs)
            have VSV : Hid (Tb.fields v d1 = vs) := Aid.hid (by rw [← HVE.out, Tb.fields_more (e := Dk.bare kind nm) FR.out hd1]; exact hvs)
            have FNV : Hid (Tb.find v s = fnd) := Aid.hid (by rw [← HVE.out, Tb.find_more (e := Dk.bare kind nm) hsn2]; exact hfn)
            have ISV : Hid (Tb.is v s t = ris) := Aid.hid (by rw [← HVE.out, Tb.is_more (e := Dk.bare kind nm) FR.out hsn2 htn2]; exact his)
            have FWV : Hid (Tb.find v nm = (u.length : Int)) := Aid.hid (by rw [← HVE.out]; exact e1.out)
            have lc : ch.length < 1000000000 := by have := Tb.chain_len u d1; rw [hch] at this; omega
            have lf : fs.length < 1000000000 := by have := (Tb.faces_at u d1).len; rw [hfs] at this; omega
            have lv : vs.length < 1000000000 := by
              have h := Tb.fields_len HM.out d1
              rw [hvs] at h
              have h2 : (u.length + 1) * 1048576 ≤ 17 * 1048576 := Nat.mul_le_mul_right _ (by omega)
              omega
            clear hme hch hfs hvs hfn his e1 hsn2 htn2
            refine (method_is u a w.heap.size cap d1 s RD RM RK _ ME.out (HUW.out.below HB6.out hBW) (Nat.le_trans hBW HB6.out.size)).mono ?_; rintro e wa ⟨rfl, hba⟩
            have HBa := Aid.hid (HB6.out.trans (hba.mono HB6.out.size))
            have Va := V0.out.below hba V0.out.lt
            have HVa := HV6.below hba (Nat.le_of_lt V0.out.lt)
            have hva := Va.lt
            have XA : Aid.Has (wa.alloc (.cells #[.int .i64 RD, .int .i64 RM] 48)) wa.heap.size [.int .i64 RD, .int .i64 RM] 48 := Aid.Has.new wa [.int .i64 RD, .int .i64 RM] 48
            have HB7 : Below W.heap.size W (wa.alloc (.cells #[.int .i64 RD, .int .i64 RM] 48)) := HBa.out.alloc HBa.out.size _
            have p0 : (wa.alloc (.cells #[.int .i64 RD, .int .i64 RM] 48)).cell? ⟨pb, 0, none⟩ = some (.slice a u.length cap) := (P0.out.below HB7 hpl).cell 0 _ rfl
            have Vb : Aid.Has (wa.alloc (.cells #[.int .i64 RD, .int .i64 RM] 48)) pv [.slice A2 v.length c2] 24 := Va.alloc _
            have pvv := Vb.cell 0 _ rfl
            have HVb : UnitAt (wa.alloc (.cells #[.int .i64 RD, .int .i64 RM] 48)) pv A2 v := HVa.below ((Below.refl wa.heap.size wa).alloc (Nat.le_refl _) _) (Nat.le_of_lt hva)
            clear hba Va HVa V0 HV6
            go_wp2_with fail
            generalize wa.alloc (.cells #[.int .i64 RD, .int .i64 RM] 48) = w8 at XA HB7 p0 Vb pvv HVb ⊢
            obtain ⟨qa, hqa⟩ : ∃ q, wa.heap.size = q := ⟨_, rfl⟩
            rw [hqa] at XA ⊢
            clear hqa HBa HB6 hva
            refine (method_is v A2 pv c2 d1 s RD RM RK _ MEV.out HVb (Nat.le_of_lt Vb.lt)).mono ?_; rintro e wb ⟨rfl, hbb⟩
            have HBb := Aid.hid (HB7.trans (hbb.mono HB7.size))
            have XAb := XA.below hbb XA.lt
            have Vc := Vb.below hbb Vb.lt
            have HVc := HVb.below hbb (Nat.le_of_lt Vb.lt)
            have hvc := Vc.lt
            have XB : Aid.Has (wb.alloc (.cells #[.int .i64 RD, .int .i64 RM] 48)) wb.heap.size [.int .i64 RD, .int .i64 RM] 48 := Aid.Has.new wb [.int .i64 RD, .int .i64 RM] 48
            have HB8 : Below W.heap.size W (wb.alloc (.cells #[.int .i64 RD, .int .i64 RM] 48)) := HBb.out.alloc HBb.out.size _
            have XA8 : Aid.Has (wb.alloc (.cells #[.int .i64 RD, .int .i64 RM] 48)) qa [.int .i64 RD, .int .i64 RM] 48 := XAb.alloc _
            have Vd : Aid.Has (wb.alloc (.cells #[.int .i64 RD, .int .i64 RM] 48)) pv [.slice A2 v.length c2] 24 := Vc.alloc _
            have HVd : UnitAt (wb.alloc (.cells #[.int .i64 RD, .int .i64 RM] 48)) pv A2 v := HVc.below ((Below.refl wb.heap.size wb).alloc (Nat.le_refl _) _) (Nat.le_of_lt hvc)
            clear hbb HB7 XA XAb p0 pvv Vb Vc HVb HVc hvc
            go_wp2_with fail
            generalize wb.alloc (.cells #[.int .i64 RD, .int .i64 RM] 48) = W8 at XB XA8 HB8 Vd HVd ⊢
            obtain ⟨qb, hqb⟩ : ∃ q, wb.heap.size = q := ⟨_, rfl⟩
            rw [hqb] at XB ⊢
            clear hqb HBb
            have PC := Aid.hid ((P0.out.below HB8 hpl).cell 0 _ rfl)
            have PV := Aid.hid (Vd.cell 0 _ rfl)
            have hp8 : pb < W8.heap.size := Nat.lt_of_lt_of_le hpl HB8.size
            have hv8 := Vd.lt
            have hV8 : pv ≤ W8.heap.size := Nat.le_of_lt hv8
            have ha8 := XA8.lt
            have hb8 := XB.lt
            have XA0 := Aid.hid (XA8.cell 0 _ rfl); have XA1 := Aid.hid (XA8.cell 1 _ rfl); have XB0 := Aid.hid (XB.cell 0 _ rfl); have XB1 := Aid.hid (XB.cell 1 _ rfl)
            have HU8 := Aid.hid (HUW.out.below HB8 hBW)
            have HV8 := Aid.hid HVd
            have hB8 := Nat.le_trans hBW HB8.size
            have B8 := Aid.hid (HB1.out.trans (HB8.mono HB1.out.size))
            clear XA8 XB HB8 Vd HVd
            have hb : Below W8.heap.size W8 W8.drew := (Below.refl _ _).drew
            refine Ord.wp_region_walk (fun w' => Below W8.heap.size W8 w') 67 [(true, 0), (true, 1), (true, 2), (true, 3), (true, 4), (true, 5), (true, 6), (true, 7), (true, 8), (true, 9), (true, 10), (true, 12), (true, 13), (false, 11), (false, 14), (true, 15), (true, 16), (true, 17), (true, 18), (true, 19), (true, 20), (true, 22), (true, 23), (true, 24), (false, 21), (false, 25), (true, 26), (true, 27), (true, 28), (true, 29), (true, 30), (true, 32), (true, 33), (false, 31), (false, 34), (false, 35), (true, 36), (true, 37), (true, 38), (true, 39), (true, 41), (true, 42), (false, 40), (false, 43), (false, 44), (true, 45), (true, 46), (true, 47), (true, 48), (true, 50), (true, 51), (false, 49), (false, 52), (false, 53), (true, 54), (true, 55), (true, 56), (true, 57), (true, 59), (true, 60), (true, 61), (false, 58), (true, 62), (true, 63), (true, 64), (false, 65), (true, 66)] (by kernel_rfl) (by kernel_rfl) (fun _ _ d _ _ h => by cases d <;> exact h) (hb) ?_
            apply Ord.walk_light
            next => (simp only [List.getElem?_toArray, List.getElem?_cons_zero]; rfl)
            next => rfl
            next => (intro w' hSw; have k0 := (hSw.cell (p := ⟨pb, 0, none⟩) hp8).trans PC.out; have k5 := (hSw.cell (p := ⟨pv, 0, none⟩) hv8).trans PV.out; have k1 := (hSw.cell (p := ⟨qa, 0, none⟩) ha8).trans XA0.out; have k2 := (hSw.cell (p := ⟨qa, 1, none⟩) ha8).trans XA1.out; have k3 := (hSw.cell (p := ⟨qb, 0, none⟩) hb8).trans XB0.out; have k4 := (hSw.cell (p := ⟨qb, 1, none⟩) hb8).trans XB1.out; go_simp; first | done | with_reducible rfl)
            simp only [Act.put, List.setIfInBounds_toArray, List.set_cons_zero, List.set_cons_succ]
            apply Ord.walk_light
            next => (simp only [List.getElem?_toArray, List.getElem?_cons_succ, List.getElem?_cons_zero]; rfl)
            next => rfl
            next => (intro w' hSw; have k0 := (hSw.cell (p := ⟨pb, 0, none⟩) hp8).trans PC.out; have k5 := (hSw.cell (p := ⟨pv, 0, none⟩) hv8).trans PV.out; have k1 := (hSw.cell (p := ⟨qa, 0, none⟩) ha8).trans XA0.out; have k2 := (hSw.cell (p := ⟨qa, 1, none⟩) ha8).trans XA1.out; have k3 := (hSw.cell (p := ⟨qb, 0, none⟩) hb8).trans XB0.out; have k4 := (hSw.cell (p := ⟨qb, 1, none⟩) hb8).trans XB1.out; go_simp; first | done | with_reducible rfl)
            simp only [Act.put, List.setIfInBounds_toArray, List.set_cons_zero, List.set_cons_succ]
            apply Ord.walk_light
            next => (simp only [List.getElem?_toArray, List.getElem?_cons_succ, List.getElem?_cons_zero]; rfl)
            next => rfl
            next => (intro w' hSw; have k0 := (hSw.cell (p := ⟨pb, 0, none⟩) hp8).trans PC.out; have k5 := (hSw.cell (p := ⟨pv, 0, none⟩) hv8).trans PV.out; have k1 := (hSw.cell (p := ⟨qa, 0, none⟩) ha8).trans XA0.out; have k2 := (hSw.cell (p := ⟨qa, 1, none⟩) ha8).trans XA1.out; have k3 := (hSw.cell (p := ⟨qb, 0, none⟩) hb8).trans XB0.out; have k4 := (hSw.cell (p := ⟨qb, 1, none⟩) hb8).trans XB1.out; go_simp; first | done | with_reducible rfl)
            simp only [Act.put, List.setIfInBounds_toArray, List.set_cons_zero, List.set_cons_succ]
            apply Ord.walk_light
            next => (simp only [List.getElem?_toArray, List.getElem?_cons_succ, List.getElem?_cons_zero]; rfl)
            next => rfl
            next => (intro w' hSw; have k0 := (hSw.cell (p := ⟨pb, 0, none⟩) hp8).trans PC.out; have k5 := (hSw.cell (p := ⟨pv, 0, none⟩) hv8).trans PV.out; have k1 := (hSw.cell (p := ⟨qa, 0, none⟩) ha8).trans XA0.out; have k2 := (hSw.cell (p := ⟨qa, 1, none⟩) ha8).trans XA1.out; have k3 := (hSw.cell (p := ⟨qb, 0, none⟩) hb8).trans XB0.out; have k4 := (hSw.cell (p := ⟨qb, 1, none⟩) hb8).trans XB1.out; go_simp; first | done | with_reducible rfl)
            simp only [Act.put, List.setIfInBounds_toArray, List.set_cons_zero, List.set_cons_succ]
            apply Ord.walk_light
            next => (simp only [List.getElem?_toArray, List.getElem?_cons_succ, List.getElem?_cons_zero]; rfl)
            next => rfl
            next => (intro w' hSw; have k0 := (hSw.cell (p := ⟨pb, 0, none⟩) hp8).trans PC.out; have k5 := (hSw.cell (p := ⟨pv, 0, none⟩) hv8).trans PV.out; have k1 := (hSw.cell (p := ⟨qa, 0, none⟩) ha8).trans XA0.out; have k2 := (hSw.cell (p := ⟨qa, 1, none⟩) ha8).trans XA1.out; have k3 := (hSw.cell (p := ⟨qb, 0, none⟩) hb8).trans XB0.out; have k4 := (hSw.cell (p := ⟨qb, 1, none⟩) hb8).trans XB1.out; go_simp; first | done | with_reducible rfl)
            simp only [Act.put, List.setIfInBounds_toArray, List.set_cons_zero, List.set_cons_succ]
            apply Ord.walk_light
            next => (simp only [List.getElem?_toArray, List.getElem?_cons_succ, List.getElem?_cons_zero]; rfl)
            next => rfl
            next => (intro w' hSw; have k0 := (hSw.cell (p := ⟨pb, 0, none⟩) hp8).trans PC.out; have k5 := (hSw.cell (p := ⟨pv, 0, none⟩) hv8).trans PV.out; have k1 := (hSw.cell (p := ⟨qa, 0, none⟩) ha8).trans XA0.out; have k2 := (hSw.cell (p := ⟨qa, 1, none⟩) ha8).trans XA1.out; have k3 := (hSw.cell (p := ⟨qb, 0, none⟩) hb8).trans XB0.out; have k4 := (hSw.cell (p := ⟨qb, 1, none⟩) hb8).trans XB1.out; go_simp; first | done | with_reducible rfl)
            simp only [Act.put, List.setIfInBounds_toArray, List.set_cons_zero, List.set_cons_succ]
            apply Ord.walk_light
            next => (simp only [List.getElem?_toArray, List.getElem?_cons_succ, List.getElem?_cons_zero]; rfl)
            next => rfl
            next => (intro w' hSw; have k0 := (hSw.cell (p := ⟨pb, 0, none⟩) hp8).trans PC.out; have k5 := (hSw.cell (p := ⟨pv, 0, none⟩) hv8).trans PV.out; have k1 := (hSw.cell (p := ⟨qa, 0, none⟩) ha8).trans XA0.out; have k2 := (hSw.cell (p := ⟨qa, 1, none⟩) ha8).trans XA1.out; have k3 := (hSw.cell (p := ⟨qb, 0, none⟩) hb8).trans XB0.out; have k4 := (hSw.cell (p := ⟨qb, 1, none⟩) hb8).trans XB1.out; go_simp; first | done | with_reducible rfl)
            simp only [Act.put, List.setIfInBounds_toArray, List.set_cons_zero, List.set_cons_succ]
            apply Ord.walk_light
            next => (simp only [List.getElem?_toArray, List.getElem?_cons_succ, List.getElem?_cons_zero]; rfl)
            next => rfl
            next => (intro w' hSw; have k0 := (hSw.cell (p := ⟨pb, 0, none⟩) hp8).trans PC.out; have k5 := (hSw.cell (p := ⟨pv, 0, none⟩) hv8).trans PV.out; have k1 := (hSw.cell (p := ⟨qa, 0, none⟩) ha8).trans XA0.out; have k2 := (hSw.cell (p := ⟨qa, 1, none⟩) ha8).trans XA1.out; have k3 := (hSw.cell (p := ⟨qb, 0, none⟩) hb8).trans XB0.out; have k4 := (hSw.cell (p := ⟨qb, 1, none⟩) hb8).trans XB1.out; go_simp; first | done | with_reducible rfl)
            simp only [Act.put, List.setIfInBounds_toArray, List.set_cons_zero, List.set_cons_succ]
            apply Ord.walk_light
            next => (simp only [List.getElem?_toArray, List.getElem?_cons_succ, List.getElem?_cons_zero]; rfl)
            next => rfl
            next => (intro w' hSw; have k0 := (hSw.cell (p := ⟨pb, 0, none⟩) hp8).trans PC.out; have k5 := (hSw.cell (p := ⟨pv, 0, none⟩) hv8).trans PV.out; have k1 := (hSw.cell (p := ⟨qa, 0, none⟩) ha8).trans XA0.out; have k2 := (hSw.cell (p := ⟨qa, 1, none⟩) ha8).trans XA1.out; have k3 := (hSw.cell (p := ⟨qb, 0, none⟩) hb8).trans XB0.out; have k4 := (hSw.cell (p := ⟨qb, 1, none⟩) hb8).trans XB1.out; go_simp; first | done | with_reducible rfl)
            simp only [Act.put, List.setIfInBounds_toArray, List.set_cons_zero, List.set_cons_succ]
            apply Ord.walk_light
            next => (simp only [List.getElem?_toArray, List.getElem?_cons_succ, List.getElem?_cons_zero]; rfl)
            next => rfl
            next => (intro w' hSw; have k0 := (hSw.cell (p := ⟨pb, 0, none⟩) hp8).trans PC.out; have k5 := (hSw.cell (p := ⟨pv, 0, none⟩) hv8).trans PV.out; have k1 := (hSw.cell (p := ⟨qa, 0, none⟩) ha8).trans XA0.out; have k2 := (hSw.cell (p := ⟨qa, 1, none⟩) ha8).trans XA1.out; have k3 := (hSw.cell (p := ⟨qb, 0, none⟩) hb8).trans XB0.out; have k4 := (hSw.cell (p := ⟨qb, 1, none⟩) hb8).trans XB1.out; go_simp; first | done | with_reducible rfl)
            simp only [Act.put, List.setIfInBounds_toArray, List.set_cons_zero, List.set_cons_succ]
            apply Ord.walk_light
            next => (simp only [List.getElem?_toArray, List.getElem?_cons_succ, List.getElem?_cons_zero]; rfl)
            next => rfl
            next => (intro w' hSw; have k0 := (hSw.cell (p := ⟨pb, 0, none⟩) hp8).trans PC.out; have k5 := (hSw.cell (p := ⟨pv, 0, none⟩) hv8).trans PV.out; have k1 := (hSw.cell (p := ⟨qa, 0, none⟩) ha8).trans XA0.out; have k2 := (hSw.cell (p := ⟨qa, 1, none⟩) ha8).trans XA1.out; have k3 := (hSw.cell (p := ⟨qb, 0, none⟩) hb8).trans XB0.out; have k4 := (hSw.cell (p := ⟨qb, 1, none⟩) hb8).trans XB1.out; go_simp; first | done | with_reducible rfl)
            simp only [Act.put, List.setIfInBounds_toArray, List.set_cons_zero, List.set_cons_succ]
            apply Ord.walk_light
            next => (simp only [List.getElem?_toArray, List.getElem?_cons_succ, List.getElem?_cons_zero]; rfl)
            next => rfl
            next => (intro w' hSw; have k0 := (hSw.cell (p := ⟨pb, 0, none⟩) hp8).trans PC.out; have k5 := (hSw.cell (p := ⟨pv, 0, none⟩) hv8).trans PV.out; have k1 := (hSw.cell (p := ⟨qa, 0, none⟩) ha8).trans XA0.out; have k2 := (hSw.cell (p := ⟨qa, 1, none⟩) ha8).trans XA1.out; have k3 := (hSw.cell (p := ⟨qb, 0, none⟩) hb8).trans XB0.out; have k4 := (hSw.cell (p := ⟨qb, 1, none⟩) hb8).trans XB1.out; go_simp; first | done | with_reducible rfl)
            simp only [Act.put, List.setIfInBounds_toArray, List.set_cons_zero, List.set_cons_succ]
            apply Ord.walk_light
            next => (simp only [List.getElem?_toArray, List.getElem?_cons_succ, List.getElem?_cons_zero]; rfl)
            next => rfl
            next => (intro w' hSw; have k0 := (hSw.cell (p := ⟨pb, 0, none⟩) hp8).trans PC.out; have k5 := (hSw.cell (p := ⟨pv, 0, none⟩) hv8).trans PV.out; have k1 := (hSw.cell (p := ⟨qa, 0, none⟩) ha8).trans XA0.out; have k2 := (hSw.cell (p := ⟨qa, 1, none⟩) ha8).trans XA1.out; have k3 := (hSw.cell (p := ⟨qb, 0, none⟩) hb8).trans XB0.out; have k4 := (hSw.cell (p := ⟨qb, 1, none⟩) hb8).trans XB1.out; go_simp; first | done | with_reducible rfl)
            simp only [Act.put, List.setIfInBounds_toArray, List.set_cons_zero, List.set_cons_succ]
            apply Ord.walk_heavy
            next => (simp only [List.getElem?_toArray, List.getElem?_cons_succ, List.getElem?_cons_zero]; rfl)
            next => rfl
            intro K hK
            go_wp2_with fail
            refine (find_is v A2 pv c2 s fnd _ FNV.out (HV8.out.below hb hV8) (Nat.le_trans hV8 hb.size)).mono ?_; rintro e w' ⟨rfl, hb'⟩; dsimp only
            refine hK.out _ _ (hb.trans (hb'.mono hb.size)) (fun hHeld => ?_)
            clear hb hb'
            have hb := hHeld
            clear hK K
            try simp only [Act.put, List.setIfInBounds_toArray, List.set_cons_zero, List.set_cons_succ]
            apply Ord.walk_heavy
            next => (simp only [List.getElem?_toArray, List.getElem?_cons_succ, List.getElem?_cons_zero]; rfl)
            next => rfl
            intro K hK
            go_wp2_with fail
            refine (find_is u a w.heap.size cap s fnd _ FN.out (HU8.out.below hb hB8) (Nat.le_trans hB8 hb.size)).mono ?_; rintro e w' ⟨rfl, hb'⟩; dsimp only
            refine hK.out _ _ (hb.trans (hb'.mono hb.size)) (fun hHeld => ?_)
            clear hb hb'
            have hb := hHeld
            clear hK K
            try simp only [Act.put, List.setIfInBounds_toArray, List.set_cons_zero, List.set_cons_succ]
            apply Ord.walk_light
            next => (simp only [List.getElem?_toArray, List.getElem?_cons_succ, List.getElem?_cons_zero]; rfl)
            next => rfl
            next => (intro w' hSw; have k0 := (hSw.cell (p := ⟨pb, 0, none⟩) hp8).trans PC.out; have k5 := (hSw.cell (p := ⟨pv, 0, none⟩) hv8).trans PV.out; have k1 := (hSw.cell (p := ⟨qa, 0, none⟩) ha8).trans XA0.out; have k2 := (hSw.cell (p := ⟨qa, 1, none⟩) ha8).trans XA1.out; have k3 := (hSw.cell (p := ⟨qb, 0, none⟩) hb8).trans XB0.out; have k4 := (hSw.cell (p := ⟨qb, 1, none⟩) hb8).trans XB1.out; go_simp; first | done | with_reducible rfl)
            simp only [Act.put, List.setIfInBounds_toArray, List.set_cons_zero, List.set_cons_succ]
            apply Ord.walk_light
            next => (simp only [List.getElem?_toArray, List.getElem?_cons_succ, List.getElem?_cons_zero]; rfl)
            next => rfl
            next => (intro w' hSw; have k0 := (hSw.cell (p := ⟨pb, 0, none⟩) hp8).trans PC.out; have k5 := (hSw.cell (p := ⟨pv, 0, none⟩) hv8).trans PV.out; have k1 := (hSw.cell (p := ⟨qa, 0, none⟩) ha8).trans XA0.out; have k2 := (hSw.cell (p := ⟨qa, 1, none⟩) ha8).trans XA1.out; have k3 := (hSw.cell (p := ⟨qb, 0, none⟩) hb8).trans XB0.out; have k4 := (hSw.cell (p := ⟨qb, 1, none⟩) hb8).trans XB1.out; go_simp; first | done | with_reducible rfl)
            simp only [Act.put, List.setIfInBounds_toArray, List.set_cons_zero, List.set_cons_succ]
            apply Ord.walk_light
            next => (simp only [List.getElem?_toArray, List.getElem?_cons_succ, List.getElem?_cons_zero]; rfl)
            next => rfl
            next => (intro w' hSw; have k0 := (hSw.cell (p := ⟨pb, 0, none⟩) hp8).trans PC.out; have k5 := (hSw.cell (p := ⟨pv, 0, none⟩) hv8).trans PV.out; have k1 := (hSw.cell (p := ⟨qa, 0, none⟩) ha8).trans XA0.out; have k2 := (hSw.cell (p := ⟨qa, 1, none⟩) ha8).trans XA1.out; have k3 := (hSw.cell (p := ⟨qb, 0, none⟩) hb8).trans XB0.out; have k4 := (hSw.cell (p := ⟨qb, 1, none⟩) hb8).trans XB1.out; go_simp; first | done | with_reducible rfl)
            simp only [Act.put, List.setIfInBounds_toArray, List.set_cons_zero, List.set_cons_succ]
            apply Ord.walk_light
            next => (simp only [List.getElem?_toArray, List.getElem?_cons_succ, List.getElem?_cons_zero]; rfl)
            next => rfl
            next => (intro w' hSw; have k0 := (hSw.cell (p := ⟨pb, 0, none⟩) hp8).trans PC.out; have k5 := (hSw.cell (p := ⟨pv, 0, none⟩) hv8).trans PV.out; have k1 := (hSw.cell (p := ⟨qa, 0, none⟩) ha8).trans XA0.out; have k2 := (hSw.cell (p := ⟨qa, 1, none⟩) ha8).trans XA1.out; have k3 := (hSw.cell (p := ⟨qb, 0, none⟩) hb8).trans XB0.out; have k4 := (hSw.cell (p := ⟨qb, 1, none⟩) hb8).trans XB1.out; go_simp; first | done | with_reducible rfl)
            simp only [Act.put, List.setIfInBounds_toArray, List.set_cons_zero, List.set_cons_succ]
            apply Ord.walk_light
            next => (simp only [List.getElem?_toArray, List.getElem?_cons_succ, List.getElem?_cons_zero]; rfl)
            next => rfl
            next => (intro w' hSw; have k0 := (hSw.cell (p := ⟨pb, 0, none⟩) hp8).trans PC.out; have k5 := (hSw.cell (p := ⟨pv, 0, none⟩) hv8).trans PV.out; have k1 := (hSw.cell (p := ⟨qa, 0, none⟩) ha8).trans XA0.out; have k2 := (hSw.cell (p := ⟨qa, 1, none⟩) ha8).trans XA1.out; have k3 := (hSw.cell (p := ⟨qb, 0, none⟩) hb8).trans XB0.out; have k4 := (hSw.cell (p := ⟨qb, 1, none⟩) hb8).trans XB1.out; go_simp; first | done | with_reducible rfl)
            simp only [Act.put, List.setIfInBounds_toArray, List.set_cons_zero, List.set_cons_succ]
            apply Ord.walk_light
            next => (simp only [List.getElem?_toArray, List.getElem?_cons_succ, List.getElem?_cons_zero]; rfl)
            next => rfl
            next => (intro w' hSw; have k0 := (hSw.cell (p := ⟨pb, 0, none⟩) hp8).trans PC.out; have k5 := (hSw.cell (p := ⟨pv, 0, none⟩) hv8).trans PV.out; have k1 := (hSw.cell (p := ⟨qa, 0, none⟩) ha8).trans XA0.out; have k2 := (hSw.cell (p := ⟨qa, 1, none⟩) ha8).trans XA1.out; have k3 := (hSw.cell (p := ⟨qb, 0, none⟩) hb8).trans XB0.out; have k4 := (hSw.cell (p := ⟨qb, 1, none⟩) hb8).trans XB1.out; go_simp; first | done | with_reducible rfl)
            simp only [Act.put, List.setIfInBounds_toArray, List.set_cons_zero, List.set_cons_succ]
            apply Ord.walk_light
            next => (simp only [List.getElem?_toArray, List.getElem?_cons_succ, List.getElem?_cons_zero]; rfl)
            next => rfl
            next => (intro w' hSw; have k0 := (hSw.cell (p := ⟨pb, 0, none⟩) hp8).trans PC.out; have k5 := (hSw.cell (p := ⟨pv, 0, none⟩) hv8).trans PV.out; have k1 := (hSw.cell (p := ⟨qa, 0, none⟩) ha8).trans XA0.out; have k2 := (hSw.cell (p := ⟨qa, 1, none⟩) ha8).trans XA1.out; have k3 := (hSw.cell (p := ⟨qb, 0, none⟩) hb8).trans XB0.out; have k4 := (hSw.cell (p := ⟨qb, 1, none⟩) hb8).trans XB1.out; go_simp; first | done | with_reducible rfl)
            simp only [Act.put, List.setIfInBounds_toArray, List.set_cons_zero, List.set_cons_succ]
            apply Ord.walk_light
            next => (simp only [List.getElem?_toArray, List.getElem?_cons_succ, List.getElem?_cons_zero]; rfl)
            next => rfl
            next => (intro w' hSw; have k0 := (hSw.cell (p := ⟨pb, 0, none⟩) hp8).trans PC.out; have k5 := (hSw.cell (p := ⟨pv, 0, none⟩) hv8).trans PV.out; have k1 := (hSw.cell (p := ⟨qa, 0, none⟩) ha8).trans XA0.out; have k2 := (hSw.cell (p := ⟨qa, 1, none⟩) ha8).trans XA1.out; have k3 := (hSw.cell (p := ⟨qb, 0, none⟩) hb8).trans XB0.out; have k4 := (hSw.cell (p := ⟨qb, 1, none⟩) hb8).trans XB1.out; go_simp; first | done | with_reducible rfl)
            simp only [Act.put, List.setIfInBounds_toArray, List.set_cons_zero, List.set_cons_succ]
            apply Ord.walk_light
            next => (simp only [List.getElem?_toArray, List.getElem?_cons_succ, List.getElem?_cons_zero]; rfl)
            next => rfl
            next => (intro w' hSw; have k0 := (hSw.cell (p := ⟨pb, 0, none⟩) hp8).trans PC.out; have k5 := (hSw.cell (p := ⟨pv, 0, none⟩) hv8).trans PV.out; have k1 := (hSw.cell (p := ⟨qa, 0, none⟩) ha8).trans XA0.out; have k2 := (hSw.cell (p := ⟨qa, 1, none⟩) ha8).trans XA1.out; have k3 := (hSw.cell (p := ⟨qb, 0, none⟩) hb8).trans XB0.out; have k4 := (hSw.cell (p := ⟨qb, 1, none⟩) hb8).trans XB1.out; go_simp; first | done | with_reducible rfl)
            simp only [Act.put, List.setIfInBounds_toArray, List.set_cons_zero, List.set_cons_succ]
            apply Ord.walk_heavy
            next => (simp only [List.getElem?_toArray, List.getElem?_cons_succ, List.getElem?_cons_zero]; rfl)
            next => rfl
            intro K hK
            go_wp2_with fail
            refine (is_is v A2 pv c2 s t ris _ ISV.out (HV8.out.below hb hV8) (Nat.le_trans hV8 hb.size)).mono ?_; rintro e w' ⟨rfl, hb'⟩; dsimp only
            refine hK.out _ _ (hb.trans (hb'.mono hb.size)) (fun hHeld => ?_)
            clear hb hb'
            have hb := hHeld
            clear hK K
            try simp only [Act.put, List.setIfInBounds_toArray, List.set_cons_zero, List.set_cons_succ]
            apply Ord.walk_heavy
            next => (simp only [List.getElem?_toArray, List.getElem?_cons_succ, List.getElem?_cons_zero]; rfl)
            next => rfl
            intro K hK
            go_wp2_with fail
            refine (is_is u a w.heap.size cap s t ris _ IS.out (HU8.out.below hb hB8) (Nat.le_trans hB8 hb.size)).mono ?_; rintro e w' ⟨rfl, hb'⟩; dsimp only
            refine hK.out _ _ (hb.trans (hb'.mono hb.size)) (fun hHeld => ?_)
            clear hb hb'
            have hb := hHeld
            clear hK K
            try simp only [Act.put, List.setIfInBounds_toArray, List.set_cons_zero, List.set_cons_succ]
            apply Ord.walk_light
            next => (simp only [List.getElem?_toArray, List.getElem?_cons_succ, List.getElem?_cons_zero]; rfl)
            next => rfl
            next => (intro w' hSw; have k0 := (hSw.cell (p := ⟨pb, 0, none⟩) hp8).trans PC.out; have k5 := (hSw.cell (p := ⟨pv, 0, none⟩) hv8).trans PV.out; have k1 := (hSw.cell (p := ⟨qa, 0, none⟩) ha8).trans XA0.out; have k2 := (hSw.cell (p := ⟨qa, 1, none⟩) ha8).trans XA1.out; have k3 := (hSw.cell (p := ⟨qb, 0, none⟩) hb8).trans XB0.out; have k4 := (hSw.cell (p := ⟨qb, 1, none⟩) hb8).trans XB1.out; go_simp; first | done | with_reducible rfl)
            simp only [Act.put, List.setIfInBounds_toArray, List.set_cons_zero, List.set_cons_succ]
            apply Ord.walk_light
            next => (simp only [List.getElem?_toArray, List.getElem?_cons_succ, List.getElem?_cons_zero]; rfl)
            next => rfl
            next => (intro w' hSw; have k0 := (hSw.cell (p := ⟨pb, 0, none⟩) hp8).trans PC.out; have k5 := (hSw.cell (p := ⟨pv, 0, none⟩) hv8).trans PV.out; have k1 := (hSw.cell (p := ⟨qa, 0, none⟩) ha8).trans XA0.out; have k2 := (hSw.cell (p := ⟨qa, 1, none⟩) ha8).trans XA1.out; have k3 := (hSw.cell (p := ⟨qb, 0, none⟩) hb8).trans XB0.out; have k4 := (hSw.cell (p := ⟨qb, 1, none⟩) hb8).trans XB1.out; go_simp; first | done | with_reducible rfl)
            simp only [Act.put, List.setIfInBounds_toArray, List.set_cons_zero, List.set_cons_succ]
            apply Ord.walk_light
            next => (simp only [List.getElem?_toArray, List.getElem?_cons_succ, List.getElem?_cons_zero]; rfl)
            next => rfl
            next => (intro w' hSw; have k0 := (hSw.cell (p := ⟨pb, 0, none⟩) hp8).trans PC.out; have k5 := (hSw.cell (p := ⟨pv, 0, none⟩) hv8).trans PV.out; have k1 := (hSw.cell (p := ⟨qa, 0, none⟩) ha8).trans XA0.out; have k2 := (hSw.cell (p := ⟨qa, 1, none⟩) ha8).trans XA1.out; have k3 := (hSw.cell (p := ⟨qb, 0, none⟩) hb8).trans XB0.out; have k4 := (hSw.cell (p := ⟨qb, 1, none⟩) hb8).trans XB1.out; go_simp; first | done | with_reducible rfl)
            simp only [Act.put, List.setIfInBounds_toArray, List.set_cons_zero, List.set_cons_succ]
            apply Ord.walk_light
            next => (simp only [List.getElem?_toArray, List.getElem?_cons_succ, List.getElem?_cons_zero]; rfl)
            next => rfl
            next => (intro w' hSw; have k0 := (hSw.cell (p := ⟨pb, 0, none⟩) hp8).trans PC.out; have k5 := (hSw.cell (p := ⟨pv, 0, none⟩) hv8).trans PV.out; have k1 := (hSw.cell (p := ⟨qa, 0, none⟩) ha8).trans XA0.out; have k2 := (hSw.cell (p := ⟨qa, 1, none⟩) ha8).trans XA1.out; have k3 := (hSw.cell (p := ⟨qb, 0, none⟩) hb8).trans XB0.out; have k4 := (hSw.cell (p := ⟨qb, 1, none⟩) hb8).trans XB1.out; go_simp; first | done | with_reducible rfl)
            simp only [Act.put, List.setIfInBounds_toArray, List.set_cons_zero, List.set_cons_succ]
            apply Ord.walk_light
            next => (simp only [List.getElem?_toArray, List.getElem?_cons_succ, List.getElem?_cons_zero]; rfl)
            next => rfl
            next => (intro w' hSw; have k0 := (hSw.cell (p := ⟨pb, 0, none⟩) hp8).trans PC.out; have k5 := (hSw.cell (p := ⟨pv, 0, none⟩) hv8).trans PV.out; have k1 := (hSw.cell (p := ⟨qa, 0, none⟩) ha8).trans XA0.out; have k2 := (hSw.cell (p := ⟨qa, 1, none⟩) ha8).trans XA1.out; have k3 := (hSw.cell (p := ⟨qb, 0, none⟩) hb8).trans XB0.out; have k4 := (hSw.cell (p := ⟨qb, 1, none⟩) hb8).trans XB1.out; go_simp; first | done | with_reducible rfl)
            simp only [Act.put, List.setIfInBounds_toArray, List.set_cons_zero, List.set_cons_succ]
            apply Ord.walk_light
            next => (simp only [List.getElem?_toArray, List.getElem?_cons_succ, List.getElem?_cons_zero]; rfl)
            next => rfl
            next => (intro w' hSw; have k0 := (hSw.cell (p := ⟨pb, 0, none⟩) hp8).trans PC.out; have k5 := (hSw.cell (p := ⟨pv, 0, none⟩) hv8).trans PV.out; have k1 := (hSw.cell (p := ⟨qa, 0, none⟩) ha8).trans XA0.out; have k2 := (hSw.cell (p := ⟨qa, 1, none⟩) ha8).trans XA1.out; have k3 := (hSw.cell (p := ⟨qb, 0, none⟩) hb8).trans XB0.out; have k4 := (hSw.cell (p := ⟨qb, 1, none⟩) hb8).trans XB1.out; go_simp; first | done | with_reducible rfl)
            simp only [Act.put, List.setIfInBounds_toArray, List.set_cons_zero, List.set_cons_succ]
            apply Ord.walk_light
            next => (simp only [List.getElem?_toArray, List.getElem?_cons_succ, List.getElem?_cons_zero]; rfl)
            next => rfl
            next => (intro w' hSw; have k0 := (hSw.cell (p := ⟨pb, 0, none⟩) hp8).trans PC.out; have k5 := (hSw.cell (p := ⟨pv, 0, none⟩) hv8).trans PV.out; have k1 := (hSw.cell (p := ⟨qa, 0, none⟩) ha8).trans XA0.out; have k2 := (hSw.cell (p := ⟨qa, 1, none⟩) ha8).trans XA1.out; have k3 := (hSw.cell (p := ⟨qb, 0, none⟩) hb8).trans XB0.out; have k4 := (hSw.cell (p := ⟨qb, 1, none⟩) hb8).trans XB1.out; go_simp; first | done | with_reducible rfl)
            simp only [Act.put, List.setIfInBounds_toArray, List.set_cons_zero, List.set_cons_succ]
            apply Ord.walk_heavy
            next => (simp only [List.getElem?_toArray, List.getElem?_cons_succ, List.getElem?_cons_zero]; rfl)
            next => rfl
            intro K hK
            go_wp2_with fail
            refine (chain_is v A2 pv c2 d1 ch _ CHV.out (HV8.out.below hb hV8) (Nat.le_trans hV8 hb.size)).mono ?_; rintro e w' ⟨A11, c11, rfl, o11, hb'⟩; dsimp only
            have O11 := Aid.hid (own_lowers o11 hb.size)
            clear o11
            refine hK.out _ _ (hb.trans (hb'.mono hb.size)) (fun hHeld => ?_)
            clear hb hb'
            have hb := hHeld
            clear hK K
            try simp only [Act.put, List.setIfInBounds_toArray, List.set_cons_zero, List.set_cons_succ]
            apply Ord.walk_heavy
            next => (simp only [List.getElem?_toArray, List.getElem?_cons_succ, List.getElem?_cons_zero]; rfl)
            next => rfl
            intro K hK
            go_wp2_with fail
            refine (chain_is u a w.heap.size cap d1 ch _ CH.out (HU8.out.below hb hB8) (Nat.le_trans hB8 hb.size)).mono ?_; rintro e w' ⟨A12, c12, rfl, o12, hb'⟩; dsimp only
            replace O11 := Aid.hid (own_keeps O11.out hb')
            have O12 := Aid.hid (own_lowers o12 hb.size)
            clear o12
            refine hK.out _ _ (hb.trans (hb'.mono hb.size)) (fun hHeld => ?_)
            clear hb hb'
            have hb := hHeld
            clear hK K
            try simp only [Act.put, List.setIfInBounds_toArray, List.set_cons_zero, List.set_cons_succ]
            apply Ord.walk_heavy
            next => (simp only [List.getElem?_toArray, List.getElem?_cons_succ, List.getElem?_cons_zero]; rfl)
            next => rfl
            intro K hK
            go_wp2_with fail
            refine (sameInts_b A11 A12 c11 c12 _ _ ch _ (IntsAt.of_own O11.out) (IntsAt.of_own O12.out) (by omega)).mono ?_; rintro e w' ⟨rfl, hb'⟩; dsimp only
            refine hK.out _ _ (hb.trans (hb'.mono hb.size)) (fun hHeld => ?_)
            clear hb hb'
            have hb := hHeld
            clear O11 O12
            clear hK K
            try simp only [Act.put, List.setIfInBounds_toArray, List.set_cons_zero, List.set_cons_succ]
            apply Ord.walk_light
            next => (simp only [List.getElem?_toArray, List.getElem?_cons_succ, List.getElem?_cons_zero]; rfl)
            next => rfl
            next => (intro w' hSw; have k0 := (hSw.cell (p := ⟨pb, 0, none⟩) hp8).trans PC.out; have k5 := (hSw.cell (p := ⟨pv, 0, none⟩) hv8).trans PV.out; have k1 := (hSw.cell (p := ⟨qa, 0, none⟩) ha8).trans XA0.out; have k2 := (hSw.cell (p := ⟨qa, 1, none⟩) ha8).trans XA1.out; have k3 := (hSw.cell (p := ⟨qb, 0, none⟩) hb8).trans XB0.out; have k4 := (hSw.cell (p := ⟨qb, 1, none⟩) hb8).trans XB1.out; go_simp; first | done | with_reducible rfl)
            simp only [Act.put, List.setIfInBounds_toArray, List.set_cons_zero, List.set_cons_succ]
            apply Ord.walk_light
            next => (simp only [List.getElem?_toArray, List.getElem?_cons_succ, List.getElem?_cons_zero]; rfl)
            next => rfl
            next => (intro w' hSw; have k0 := (hSw.cell (p := ⟨pb, 0, none⟩) hp8).trans PC.out; have k5 := (hSw.cell (p := ⟨pv, 0, none⟩) hv8).trans PV.out; have k1 := (hSw.cell (p := ⟨qa, 0, none⟩) ha8).trans XA0.out; have k2 := (hSw.cell (p := ⟨qa, 1, none⟩) ha8).trans XA1.out; have k3 := (hSw.cell (p := ⟨qb, 0, none⟩) hb8).trans XB0.out; have k4 := (hSw.cell (p := ⟨qb, 1, none⟩) hb8).trans XB1.out; go_simp; first | done | with_reducible rfl)
            simp only [Act.put, List.setIfInBounds_toArray, List.set_cons_zero, List.set_cons_succ]
            apply Ord.walk_light
            next => (simp only [List.getElem?_toArray, List.getElem?_cons_succ, List.getElem?_cons_zero]; rfl)
            next => rfl
            next => (intro w' hSw; have k0 := (hSw.cell (p := ⟨pb, 0, none⟩) hp8).trans PC.out; have k5 := (hSw.cell (p := ⟨pv, 0, none⟩) hv8).trans PV.out; have k1 := (hSw.cell (p := ⟨qa, 0, none⟩) ha8).trans XA0.out; have k2 := (hSw.cell (p := ⟨qa, 1, none⟩) ha8).trans XA1.out; have k3 := (hSw.cell (p := ⟨qb, 0, none⟩) hb8).trans XB0.out; have k4 := (hSw.cell (p := ⟨qb, 1, none⟩) hb8).trans XB1.out; go_simp; first | done | with_reducible rfl)
            simp only [Act.put, List.setIfInBounds_toArray, List.set_cons_zero, List.set_cons_succ]
            apply Ord.walk_light
            next => (simp only [List.getElem?_toArray, List.getElem?_cons_succ, List.getElem?_cons_zero]; rfl)
            next => rfl
            next => (intro w' hSw; have k0 := (hSw.cell (p := ⟨pb, 0, none⟩) hp8).trans PC.out; have k5 := (hSw.cell (p := ⟨pv, 0, none⟩) hv8).trans PV.out; have k1 := (hSw.cell (p := ⟨qa, 0, none⟩) ha8).trans XA0.out; have k2 := (hSw.cell (p := ⟨qa, 1, none⟩) ha8).trans XA1.out; have k3 := (hSw.cell (p := ⟨qb, 0, none⟩) hb8).trans XB0.out; have k4 := (hSw.cell (p := ⟨qb, 1, none⟩) hb8).trans XB1.out; go_simp; first | done | with_reducible rfl)
            simp only [Act.put, List.setIfInBounds_toArray, List.set_cons_zero, List.set_cons_succ]
            apply Ord.walk_light
            next => (simp only [List.getElem?_toArray, List.getElem?_cons_succ, List.getElem?_cons_zero]; rfl)
            next => rfl
            next => (intro w' hSw; have k0 := (hSw.cell (p := ⟨pb, 0, none⟩) hp8).trans PC.out; have k5 := (hSw.cell (p := ⟨pv, 0, none⟩) hv8).trans PV.out; have k1 := (hSw.cell (p := ⟨qa, 0, none⟩) ha8).trans XA0.out; have k2 := (hSw.cell (p := ⟨qa, 1, none⟩) ha8).trans XA1.out; have k3 := (hSw.cell (p := ⟨qb, 0, none⟩) hb8).trans XB0.out; have k4 := (hSw.cell (p := ⟨qb, 1, none⟩) hb8).trans XB1.out; go_simp; first | done | with_reducible rfl)
            simp only [Act.put, List.setIfInBounds_toArray, List.set_cons_zero, List.set_cons_succ]
            apply Ord.walk_light
            next => (simp only [List.getElem?_toArray, List.getElem?_cons_succ, List.getElem?_cons_zero]; rfl)
            next => rfl
            next => (intro w' hSw; have k0 := (hSw.cell (p := ⟨pb, 0, none⟩) hp8).trans PC.out; have k5 := (hSw.cell (p := ⟨pv, 0, none⟩) hv8).trans PV.out; have k1 := (hSw.cell (p := ⟨qa, 0, none⟩) ha8).trans XA0.out; have k2 := (hSw.cell (p := ⟨qa, 1, none⟩) ha8).trans XA1.out; have k3 := (hSw.cell (p := ⟨qb, 0, none⟩) hb8).trans XB0.out; have k4 := (hSw.cell (p := ⟨qb, 1, none⟩) hb8).trans XB1.out; go_simp; first | done | with_reducible rfl)
            simp only [Act.put, List.setIfInBounds_toArray, List.set_cons_zero, List.set_cons_succ]
            apply Ord.walk_heavy
            next => (simp only [List.getElem?_toArray, List.getElem?_cons_succ, List.getElem?_cons_zero]; rfl)
            next => rfl
            intro K hK
            go_wp2_with fail
            refine (faces_is v A2 pv c2 d1 fs _ FSV.out (HV8.out.below hb hV8) (Nat.le_trans hV8 hb.size)).mono ?_; rintro e w' ⟨A13, c13, rfl, o13, hb'⟩; dsimp only
            have O13 := Aid.hid (own_lowers o13 hb.size)
            clear o13
            refine hK.out _ _ (hb.trans (hb'.mono hb.size)) (fun hHeld => ?_)
            clear hb hb'
            have hb := hHeld
            clear hK K
            try simp only [Act.put, List.setIfInBounds_toArray, List.set_cons_zero, List.set_cons_succ]
            apply Ord.walk_heavy
            next => (simp only [List.getElem?_toArray, List.getElem?_cons_succ, List.getElem?_cons_zero]; rfl)
            next => rfl
            intro K hK
            go_wp2_with fail
            refine (faces_is u a w.heap.size cap d1 fs _ FS.out (HU8.out.below hb hB8) (Nat.le_trans hB8 hb.size)).mono ?_; rintro e w' ⟨A14, c14, rfl, o14, hb'⟩; dsimp only
            replace O13 := Aid.hid (own_keeps O13.out hb')
            have O14 := Aid.hid (own_lowers o14 hb.size)
            clear o14
            refine hK.out _ _ (hb.trans (hb'.mono hb.size)) (fun hHeld => ?_)
            clear hb hb'
            have hb := hHeld
            clear hK K
            try simp only [Act.put, List.setIfInBounds_toArray, List.set_cons_zero, List.set_cons_succ]
            apply Ord.walk_heavy
            next => (simp only [List.getElem?_toArray, List.getElem?_cons_succ, List.getElem?_cons_zero]; rfl)
            next => rfl
            intro K hK
            go_wp2_with fail
            refine (sameInts_b A13 A14 c13 c14 _ _ fs _ (IntsAt.of_own O13.out) (IntsAt.of_own O14.out) (by omega)).mono ?_; rintro e w' ⟨rfl, hb'⟩; dsimp only
            refine hK.out _ _ (hb.trans (hb'.mono hb.size)) (fun hHeld => ?_)
            clear hb hb'
            have hb := hHeld
            clear O13 O14
            clear hK K
            try simp only [Act.put, List.setIfInBounds_toArray, List.set_cons_zero, List.set_cons_succ]
            apply Ord.walk_light
            next => (simp only [List.getElem?_toArray, List.getElem?_cons_succ, List.getElem?_cons_zero]; rfl)
            next => rfl
            next => (intro w' hSw; have k0 := (hSw.cell (p := ⟨pb, 0, none⟩) hp8).trans PC.out; have k5 := (hSw.cell (p := ⟨pv, 0, none⟩) hv8).trans PV.out; have k1 := (hSw.cell (p := ⟨qa, 0, none⟩) ha8).trans XA0.out; have k2 := (hSw.cell (p := ⟨qa, 1, none⟩) ha8).trans XA1.out; have k3 := (hSw.cell (p := ⟨qb, 0, none⟩) hb8).trans XB0.out; have k4 := (hSw.cell (p := ⟨qb, 1, none⟩) hb8).trans XB1.out; go_simp; first | done | with_reducible rfl)
            simp only [Act.put, List.setIfInBounds_toArray, List.set_cons_zero, List.set_cons_succ]
            apply Ord.walk_light
            next => (simp only [List.getElem?_toArray, List.getElem?_cons_succ, List.getElem?_cons_zero]; rfl)
            next => rfl
            next => (intro w' hSw; have k0 := (hSw.cell (p := ⟨pb, 0, none⟩) hp8).trans PC.out; have k5 := (hSw.cell (p := ⟨pv, 0, none⟩) hv8).trans PV.out; have k1 := (hSw.cell (p := ⟨qa, 0, none⟩) ha8).trans XA0.out; have k2 := (hSw.cell (p := ⟨qa, 1, none⟩) ha8).trans XA1.out; have k3 := (hSw.cell (p := ⟨qb, 0, none⟩) hb8).trans XB0.out; have k4 := (hSw.cell (p := ⟨qb, 1, none⟩) hb8).trans XB1.out; go_simp; first | done | with_reducible rfl)
            simp only [Act.put, List.setIfInBounds_toArray, List.set_cons_zero, List.set_cons_succ]
            apply Ord.walk_light
            next => (simp only [List.getElem?_toArray, List.getElem?_cons_succ, List.getElem?_cons_zero]; rfl)
            next => rfl
            next => (intro w' hSw; have k0 := (hSw.cell (p := ⟨pb, 0, none⟩) hp8).trans PC.out; have k5 := (hSw.cell (p := ⟨pv, 0, none⟩) hv8).trans PV.out; have k1 := (hSw.cell (p := ⟨qa, 0, none⟩) ha8).trans XA0.out; have k2 := (hSw.cell (p := ⟨qa, 1, none⟩) ha8).trans XA1.out; have k3 := (hSw.cell (p := ⟨qb, 0, none⟩) hb8).trans XB0.out; have k4 := (hSw.cell (p := ⟨qb, 1, none⟩) hb8).trans XB1.out; go_simp; first | done | with_reducible rfl)
            simp only [Act.put, List.setIfInBounds_toArray, List.set_cons_zero, List.set_cons_succ]
            apply Ord.walk_light
            next => (simp only [List.getElem?_toArray, List.getElem?_cons_succ, List.getElem?_cons_zero]; rfl)
            next => rfl
            next => (intro w' hSw; have k0 := (hSw.cell (p := ⟨pb, 0, none⟩) hp8).trans PC.out; have k5 := (hSw.cell (p := ⟨pv, 0, none⟩) hv8).trans PV.out; have k1 := (hSw.cell (p := ⟨qa, 0, none⟩) ha8).trans XA0.out; have k2 := (hSw.cell (p := ⟨qa, 1, none⟩) ha8).trans XA1.out; have k3 := (hSw.cell (p := ⟨qb, 0, none⟩) hb8).trans XB0.out; have k4 := (hSw.cell (p := ⟨qb, 1, none⟩) hb8).trans XB1.out; go_simp; first | done | with_reducible rfl)
            simp only [Act.put, List.setIfInBounds_toArray, List.set_cons_zero, List.set_cons_succ]
            apply Ord.walk_light
            next => (simp only [List.getElem?_toArray, List.getElem?_cons_succ, List.getElem?_cons_zero]; rfl)
            next => rfl
            next => (intro w' hSw; have k0 := (hSw.cell (p := ⟨pb, 0, none⟩) hp8).trans PC.out; have k5 := (hSw.cell (p := ⟨pv, 0, none⟩) hv8).trans PV.out; have k1 := (hSw.cell (p := ⟨qa, 0, none⟩) ha8).trans XA0.out; have k2 := (hSw.cell (p := ⟨qa, 1, none⟩) ha8).trans XA1.out; have k3 := (hSw.cell (p := ⟨qb, 0, none⟩) hb8).trans XB0.out; have k4 := (hSw.cell (p := ⟨qb, 1, none⟩) hb8).trans XB1.out; go_simp; first | done | with_reducible rfl)
            simp only [Act.put, List.setIfInBounds_toArray, List.set_cons_zero, List.set_cons_succ]
            apply Ord.walk_light
            next => (simp only [List.getElem?_toArray, List.getElem?_cons_succ, List.getElem?_cons_zero]; rfl)
            next => rfl
            next => (intro w' hSw; have k0 := (hSw.cell (p := ⟨pb, 0, none⟩) hp8).trans PC.out; have k5 := (hSw.cell (p := ⟨pv, 0, none⟩) hv8).trans PV.out; have k1 := (hSw.cell (p := ⟨qa, 0, none⟩) ha8).trans XA0.out; have k2 := (hSw.cell (p := ⟨qa, 1, none⟩) ha8).trans XA1.out; have k3 := (hSw.cell (p := ⟨qb, 0, none⟩) hb8).trans XB0.out; have k4 := (hSw.cell (p := ⟨qb, 1, none⟩) hb8).trans XB1.out; go_simp; first | done | with_reducible rfl)
            simp only [Act.put, List.setIfInBounds_toArray, List.set_cons_zero, List.set_cons_succ]
            apply Ord.walk_heavy
            next => (simp only [List.getElem?_toArray, List.getElem?_cons_succ, List.getElem?_cons_zero]; rfl)
            next => rfl
            intro K hK
            go_wp2_with fail
            refine (fields_is v A2 pv c2 d1 vs _ VSV.out (HV8.out.below hb hV8) (Nat.le_trans hV8 hb.size) (by omega) HMV.out).mono ?_; rintro e w' ⟨A15, c15, rfl, o15, hb'⟩; dsimp only
            have O15 := Aid.hid (own_lowers o15 hb.size)
            clear o15
            refine hK.out _ _ (hb.trans (hb'.mono hb.size)) (fun hHeld => ?_)
            clear hb hb'
            have hb := hHeld
            clear hK K
            try simp only [Act.put, List.setIfInBounds_toArray, List.set_cons_zero, List.set_cons_succ]
            apply Ord.walk_heavy
            next => (simp only [List.getElem?_toArray, List.getElem?_cons_succ, List.getElem?_cons_zero]; rfl)
            next => rfl
            intro K hK
            go_wp2_with fail
            refine (fields_is u a w.heap.size cap d1 vs _ VS.out (HU8.out.below hb hB8) (Nat.le_trans hB8 hb.size) (by omega) HM.out).mono ?_; rintro e w' ⟨A16, c16, rfl, o16, hb'⟩; dsimp only
            replace O15 := Aid.hid (own_keeps O15.out hb')
            have O16 := Aid.hid (own_lowers o16 hb.size)
            clear o16
            refine hK.out _ _ (hb.trans (hb'.mono hb.size)) (fun hHeld => ?_)
            clear hb hb'
            have hb := hHeld
            clear hK K
            try simp only [Act.put, List.setIfInBounds_toArray, List.set_cons_zero, List.set_cons_succ]
            apply Ord.walk_heavy
            next => (simp only [List.getElem?_toArray, List.getElem?_cons_succ, List.getElem?_cons_zero]; rfl)
            next => rfl
            intro K hK
            go_wp2_with fail
            refine (sameVars_b A15 A16 c15 c16 _ _ vs _ (rows_own O15.out) (rows_own O16.out) (by omega)).mono ?_; rintro e w' ⟨rfl, hb'⟩; dsimp only
            refine hK.out _ _ (hb.trans (hb'.mono hb.size)) (fun hHeld => ?_)
            clear hb hb'
            have hb := hHeld
            clear O15 O16
            clear hK K
            try simp only [Act.put, List.setIfInBounds_toArray, List.set_cons_zero, List.set_cons_succ]
            apply Ord.walk_light
            next => (simp only [List.getElem?_toArray, List.getElem?_cons_succ, List.getElem?_cons_zero]; rfl)
            next => rfl
            next => (intro w' hSw; have k0 := (hSw.cell (p := ⟨pb, 0, none⟩) hp8).trans PC.out; have k5 := (hSw.cell (p := ⟨pv, 0, none⟩) hv8).trans PV.out; have k1 := (hSw.cell (p := ⟨qa, 0, none⟩) ha8).trans XA0.out; have k2 := (hSw.cell (p := ⟨qa, 1, none⟩) ha8).trans XA1.out; have k3 := (hSw.cell (p := ⟨qb, 0, none⟩) hb8).trans XB0.out; have k4 := (hSw.cell (p := ⟨qb, 1, none⟩) hb8).trans XB1.out; go_simp; first | done | with_reducible rfl)
            simp only [Act.put, List.setIfInBounds_toArray, List.set_cons_zero, List.set_cons_succ]
            apply Ord.walk_light
            next => (simp only [List.getElem?_toArray, List.getElem?_cons_succ, List.getElem?_cons_zero]; rfl)
            next => rfl
            next => (intro w' hSw; have k0 := (hSw.cell (p := ⟨pb, 0, none⟩) hp8).trans PC.out; have k5 := (hSw.cell (p := ⟨pv, 0, none⟩) hv8).trans PV.out; have k1 := (hSw.cell (p := ⟨qa, 0, none⟩) ha8).trans XA0.out; have k2 := (hSw.cell (p := ⟨qa, 1, none⟩) ha8).trans XA1.out; have k3 := (hSw.cell (p := ⟨qb, 0, none⟩) hb8).trans XB0.out; have k4 := (hSw.cell (p := ⟨qb, 1, none⟩) hb8).trans XB1.out; go_simp; first | done | with_reducible rfl)
            simp only [Act.put, List.setIfInBounds_toArray, List.set_cons_zero, List.set_cons_succ]
            apply Ord.walk_light
            next => (simp only [List.getElem?_toArray, List.getElem?_cons_succ, List.getElem?_cons_zero]; rfl)
            next => rfl
            next => (intro w' hSw; have k0 := (hSw.cell (p := ⟨pb, 0, none⟩) hp8).trans PC.out; have k5 := (hSw.cell (p := ⟨pv, 0, none⟩) hv8).trans PV.out; have k1 := (hSw.cell (p := ⟨qa, 0, none⟩) ha8).trans XA0.out; have k2 := (hSw.cell (p := ⟨qa, 1, none⟩) ha8).trans XA1.out; have k3 := (hSw.cell (p := ⟨qb, 0, none⟩) hb8).trans XB0.out; have k4 := (hSw.cell (p := ⟨qb, 1, none⟩) hb8).trans XB1.out; go_simp; first | done | with_reducible rfl)
            simp only [Act.put, List.setIfInBounds_toArray, List.set_cons_zero, List.set_cons_succ]
            apply Ord.walk_light
            next => (simp only [List.getElem?_toArray, List.getElem?_cons_succ, List.getElem?_cons_zero]; rfl)
            next => rfl
            next => (intro w' hSw; have k0 := (hSw.cell (p := ⟨pb, 0, none⟩) hp8).trans PC.out; have k5 := (hSw.cell (p := ⟨pv, 0, none⟩) hv8).trans PV.out; have k1 := (hSw.cell (p := ⟨qa, 0, none⟩) ha8).trans XA0.out; have k2 := (hSw.cell (p := ⟨qa, 1, none⟩) ha8).trans XA1.out; have k3 := (hSw.cell (p := ⟨qb, 0, none⟩) hb8).trans XB0.out; have k4 := (hSw.cell (p := ⟨qb, 1, none⟩) hb8).trans XB1.out; go_simp; first | done | with_reducible rfl)
            simp only [Act.put, List.setIfInBounds_toArray, List.set_cons_zero, List.set_cons_succ]
            apply Ord.walk_light
            next => (simp only [List.getElem?_toArray, List.getElem?_cons_succ, List.getElem?_cons_zero]; rfl)
            next => rfl
            next => (intro w' hSw; have k0 := (hSw.cell (p := ⟨pb, 0, none⟩) hp8).trans PC.out; have k5 := (hSw.cell (p := ⟨pv, 0, none⟩) hv8).trans PV.out; have k1 := (hSw.cell (p := ⟨qa, 0, none⟩) ha8).trans XA0.out; have k2 := (hSw.cell (p := ⟨qa, 1, none⟩) ha8).trans XA1.out; have k3 := (hSw.cell (p := ⟨qb, 0, none⟩) hb8).trans XB0.out; have k4 := (hSw.cell (p := ⟨qb, 1, none⟩) hb8).trans XB1.out; go_simp; first | done | with_reducible rfl)
            simp only [Act.put, List.setIfInBounds_toArray, List.set_cons_zero, List.set_cons_succ]
            apply Ord.walk_light
            next => (simp only [List.getElem?_toArray, List.getElem?_cons_succ, List.getElem?_cons_zero]; rfl)
            next => rfl
            next => (intro w' hSw; have k0 := (hSw.cell (p := ⟨pb, 0, none⟩) hp8).trans PC.out; have k5 := (hSw.cell (p := ⟨pv, 0, none⟩) hv8).trans PV.out; have k1 := (hSw.cell (p := ⟨qa, 0, none⟩) ha8).trans XA0.out; have k2 := (hSw.cell (p := ⟨qa, 1, none⟩) ha8).trans XA1.out; have k3 := (hSw.cell (p := ⟨qb, 0, none⟩) hb8).trans XB0.out; have k4 := (hSw.cell (p := ⟨qb, 1, none⟩) hb8).trans XB1.out; go_simp; first | done | with_reducible rfl)
            simp only [Act.put, List.setIfInBounds_toArray, List.set_cons_zero, List.set_cons_succ]
            apply Ord.walk_light
            next => (simp only [List.getElem?_toArray, List.getElem?_cons_succ, List.getElem?_cons_zero]; rfl)
            next => rfl
            next => (intro w' hSw; have k0 := (hSw.cell (p := ⟨pb, 0, none⟩) hp8).trans PC.out; have k5 := (hSw.cell (p := ⟨pv, 0, none⟩) hv8).trans PV.out; have k1 := (hSw.cell (p := ⟨qa, 0, none⟩) ha8).trans XA0.out; have k2 := (hSw.cell (p := ⟨qa, 1, none⟩) ha8).trans XA1.out; have k3 := (hSw.cell (p := ⟨qb, 0, none⟩) hb8).trans XB0.out; have k4 := (hSw.cell (p := ⟨qb, 1, none⟩) hb8).trans XB1.out; go_simp; first | done | with_reducible rfl)
            simp only [Act.put, List.setIfInBounds_toArray, List.set_cons_zero, List.set_cons_succ]
            apply Ord.walk_heavy
            next => (simp only [List.getElem?_toArray, List.getElem?_cons_succ, List.getElem?_cons_zero]; rfl)
            next => rfl
            intro K hK
            go_wp2_with fail
            refine (find_is v A2 pv c2 nm (u.length : Int) _ FWV.out (HV8.out.below hb hV8) (Nat.le_trans hV8 hb.size)).mono ?_; rintro e w' ⟨rfl, hb'⟩; dsimp only
            refine hK.out _ _ (hb.trans (hb'.mono hb.size)) (fun hHeld => ?_)
            clear hb hb'
            have hb := hHeld
            clear hK K
            try simp only [Act.put, List.setIfInBounds_toArray, List.set_cons_zero, List.set_cons_succ]
            apply Ord.walk_light
            next => (simp only [List.getElem?_toArray, List.getElem?_cons_succ, List.getElem?_cons_zero]; rfl)
            next => rfl
            next => (intro w' hSw; have k0 := (hSw.cell (p := ⟨pb, 0, none⟩) hp8).trans PC.out; have k5 := (hSw.cell (p := ⟨pv, 0, none⟩) hv8).trans PV.out; have k1 := (hSw.cell (p := ⟨qa, 0, none⟩) ha8).trans XA0.out; have k2 := (hSw.cell (p := ⟨qa, 1, none⟩) ha8).trans XA1.out; have k3 := (hSw.cell (p := ⟨qb, 0, none⟩) hb8).trans XB0.out; have k4 := (hSw.cell (p := ⟨qb, 1, none⟩) hb8).trans XB1.out; go_simp; first | done | with_reducible rfl)
            simp only [Act.put, List.setIfInBounds_toArray, List.set_cons_zero, List.set_cons_succ]
            apply Ord.walk_light
            next => (simp only [List.getElem?_toArray, List.getElem?_cons_succ, List.getElem?_cons_zero]; rfl)
            next => rfl
            next => (intro w' hSw; have k0 := (hSw.cell (p := ⟨pb, 0, none⟩) hp8).trans PC.out; have k5 := (hSw.cell (p := ⟨pv, 0, none⟩) hv8).trans PV.out; have k1 := (hSw.cell (p := ⟨qa, 0, none⟩) ha8).trans XA0.out; have k2 := (hSw.cell (p := ⟨qa, 1, none⟩) ha8).trans XA1.out; have k3 := (hSw.cell (p := ⟨qb, 0, none⟩) hb8).trans XB0.out; have k4 := (hSw.cell (p := ⟨qb, 1, none⟩) hb8).trans XB1.out; go_simp; first | done | with_reducible rfl)
            simp only [Act.put, List.setIfInBounds_toArray, List.set_cons_zero, List.set_cons_succ]
            apply Ord.walk_light
            next => (simp only [List.getElem?_toArray, List.getElem?_cons_succ, List.getElem?_cons_zero]; rfl)
            next => rfl
            next => (intro w' hSw; have k0 := (hSw.cell (p := ⟨pb, 0, none⟩) hp8).trans PC.out; have k5 := (hSw.cell (p := ⟨pv, 0, none⟩) hv8).trans PV.out; have k1 := (hSw.cell (p := ⟨qa, 0, none⟩) ha8).trans XA0.out; have k2 := (hSw.cell (p := ⟨qa, 1, none⟩) ha8).trans XA1.out; have k3 := (hSw.cell (p := ⟨qb, 0, none⟩) hb8).trans XB0.out; have k4 := (hSw.cell (p := ⟨qb, 1, none⟩) hb8).trans XB1.out; go_simp; first | done | with_reducible rfl)
            simp only [Act.put, List.setIfInBounds_toArray, List.set_cons_zero, List.set_cons_succ]
            apply Ord.walk_heavy
            next => (simp only [List.getElem?_toArray, List.getElem?_cons_succ, List.getElem?_cons_zero]; rfl)
            next => rfl
            intro K hK
            go_wp2_with fail
            refine (awake_any _).mono ?_; rintro e w' ⟨rfl, hb'⟩; dsimp only
            refine hK.out _ _ (hb.trans (hb'.mono hb.size)) (fun hHeld => ?_)
            clear hb hb'
            have hb := hHeld
            clear hK K
            try simp only [Act.put, List.setIfInBounds_toArray, List.set_cons_zero, List.set_cons_succ]
            apply Ord.walk_light
            next => (simp only [List.getElem?_toArray, List.getElem?_cons_succ, List.getElem?_cons_zero]; rfl)
            next => rfl
            next => (intro w' hSw; have k0 := (hSw.cell (p := ⟨pb, 0, none⟩) hp8).trans PC.out; have k5 := (hSw.cell (p := ⟨pv, 0, none⟩) hv8).trans PV.out; have k1 := (hSw.cell (p := ⟨qa, 0, none⟩) ha8).trans XA0.out; have k2 := (hSw.cell (p := ⟨qa, 1, none⟩) ha8).trans XA1.out; have k3 := (hSw.cell (p := ⟨qb, 0, none⟩) hb8).trans XB0.out; have k4 := (hSw.cell (p := ⟨qb, 1, none⟩) hb8).trans XB1.out; go_simp; first | done | with_reducible rfl)
            simp only [Act.put, List.setIfInBounds_toArray, List.set_cons_zero, List.set_cons_succ]
            refine Ord.walk_tail ?_; simp only [List.drop_succ_cons, List.drop_zero]
            have FB := Aid.hid (B8.out.trans (hb.mono B8.out.size))
            clear hb
            go_wp2_with fail
            go_ret
            exact ⟨rfl, FB.out⟩
      · go_wp2_with fail
        refine (awake_any _).mono ?_; rintro e w4 ⟨rfl, hb4⟩
        have HB4 := Aid.hid (HB1.out.trans ((HB3.out.trans (hb4.mono HB3.out.size)).mono HB1.out.size))
        clear hb4
        go_wp2_with fail
        go_ret
        exact ⟨rfl, HB4.out⟩
    · go_wp2_with fail
      refine (awake_any _).mono ?_; rintro e w4 ⟨rfl, hb4⟩
      have HB4 := Aid.hid (HB1.out.trans ((HB3.out.trans (hb4.mono HB3.out.size)).mono HB1.out.size))
      clear hb4
      go_wp2_with fail
      go_ret
      exact ⟨rfl, HB4.out⟩
  · go_wp2_with fail
    refine (awake_any _).mono ?_; rintro e w3 ⟨rfl, hb3⟩
    have HB3 := Aid.hid (HB1.out.trans ((HB2.out.trans (hb3.mono HB2.out.size)).mono HB1.out.size))
    clear hb3
    go_wp2_with fail
    go_ret
    exact ⟨rfl, HB3.out⟩
/-- The law, of any unit of bulk at most 2^20. -/
theorem tableGrows_any (u : List Dk) (a : Option Addr) (cap : Nat) (kind d : Int) (s t : ByteArray) (w : World) (hu : u.length ≤ 1000000000 → UnitAt w w.heap.size a u) (hM : u.length ≤ 1000000000 → ∀ x ∈ u, BulkAt 1048576 x) :
    Calls Try.prog 7 #[.agg #[.slice a u.length cap], .int .i64 kind, .int .i64 d, .string s, .string t] w fun e w' => e = .returned (.bool true) ∧ Below w.heap.size w w' := by
  by_cases hb : 16 < u.length
  · exact tableGrows_big u a cap kind d s t w hb
  · by_cases hs : s.size ≤ 60
    · by_cases ht : t.size ≤ 60
      · exact tableGrows_main u a cap kind d s t w (hu (by omega)) (by omega) (hM (by omega)) hs ht
      · exact tableGrows_longB u a cap kind d s t w (hu (by omega)) (by omega) hs (by omega)
    · exact tableGrows_longA u a cap kind d s t w (hu (by omega)) (by omega) (by omega)
end Go.Proofs.Ytjhlcfaakhabfaa
