/- strings.Map over a row of soldiers, each of whom turns: its walk over the shelf's Builder, with no table; and the program's turned by it. No condition. -/
import Derived.Test.YtkipdkkiojbbeaaDoorGivT
import Derived.Test.YtkipdkkiojbbeaaDoorShelf
import Derived.Test.YtkipdkkiojbbeaaDoorX
import Derived.Shelf.Strings.MapAny
namespace Go.Proofs.YtkipdkkiojbbeaaDoor.A
section
open Go.Shelf Go.RowKit Go.Lib
open Go.Proofs.YtkipdkkiojbbeaaDoorW.PrintWords (Aside0)
set_option linter.unusedVariables false
set_option linter.unusedSimpArgs false
variable {P : Program} {ρ : Ren}

def turnB (c : UInt8) : UInt8 := if c = 60 then 62 else 60
theorem byte_lit (s : ByteArray) (i : Nat) (h : i < s.size) (c : UInt8) (e : s.data.toList[i]? = some c) : s[i]'h = c := by
  have : s.data.toList[i]? = some (s[i]'h) := by
    rw [List.getElem?_eq_getElem (by simpa using h)]
    rfl
  rw [this] at e
  exact Option.some.inj e
theorem extract_one (s : ByteArray) : (s.extract 1 s.size).data.toList = s.data.toList.drop 1 := by
  rw [Lib.extract_data, List.take_of_length_le (by rw [List.length_drop, ← Lib.size_eq]; omega)]
set_option maxHeartbeats 4000000 in
set_option maxRecDepth 1000000 in
theorem map_row (L : Lays.n230 P ρ) (X : Builder.Extra P ρ) (g : Nat) (lb : Array Value) (eg : ∀ args w, (callFunc g args).run P w = .ok (.enter g args) w) (s : ByteArray) (w : World) (hs : s.size ≤ 60) (hs0 : 0 < s.size)
    (hrow : ∀ (i : Nat) (c : UInt8), s.data.toList[i]? = some c → c = 60 ∨ c = 62)
    (hf : ∀ (W : World) (c : Int), c = 60 ∨ c = 62 → Calls P g (#[.int .i32 c] ++ lb) W fun e w' => e = .returned (.int .i32 (122 - c)) ∧ w' = W) :
    Calls P (ρ.f 230) #[.func (.func g) #[] lb, .string s] w fun e w' => e = .returned (.string ⟨(s.data.toList.map turnB).toArray⟩) ∧ Below w.heap.size w w' := by
  have t0 := L.t0; have a0 := L.a0; have z0 := L.z0; have v0 := L.v0; have t3 := L.t3; have a3 := L.a3; have z3 := L.z3; have v3 := L.v3; have t4 := L.t4; have a4 := L.a4; have z4 := L.z4; have v4 := L.v4; have t5 := L.t5; have a5 := L.a5; have z5 := L.z5; have v5 := L.v5; have t9 := L.t9; have a9 := L.a9; have z9 := L.z9; have v9 := L.v9; have t20 := L.t20; have a20 := L.a20; have z20 := L.z20; have v20 := L.v20; have t21 := L.t21; have a21 := L.a21; have z21 := L.z21; have v21 := L.v21; have t37 := L.t37; have a37 := L.a37; have z37 := L.z37; have v37 := L.v37; have t46 := L.t46; have a46 := L.a46; have z46 := L.z46; have v46 := L.v46; have t51 := L.t51; have a51 := L.a51; have z51 := L.z51; have v51 := L.v51; have t70 := L.t70; have a70 := L.a70; have z70 := L.z70; have v70 := L.v70; have t72 := L.t72; have a72 := L.a72; have z72 := L.z72; have v72 := L.v72; have t75 := L.t75; have a75 := L.a75; have z75 := L.z75; have v75 := L.v75; have t76 := L.t76; have a76 := L.a76; have z76 := L.z76; have v76 := L.v76; have t105 := L.t105; have a105 := L.a105; have z105 := L.z105; have v105 := L.v105; have t107 := L.t107; have a107 := L.a107; have z107 := L.z107; have v107 := L.v107; have t119 := L.t119; have a119 := L.a119; have z119 := L.z119; have t127 := L.t127; have a127 := L.a127; have z127 := L.z127; have v127 := L.v127; have t138 := L.t138; have a138 := L.a138; have z138 := L.z138; have v138 := L.v138; have t139 := L.t139; have a139 := L.a139; have z139 := L.z139; have v139 := L.v139; have t164 := L.t164; have a164 := L.a164; have z164 := L.z164; have v164 := L.v164
  have u0 := run_underlying L.t0; have u3 := run_underlying L.t3; have u4 := run_underlying L.t4; have u5 := run_underlying L.t5; have u9 := run_underlying L.t9; have u20 := run_underlying L.t20; have u21 := run_underlying L.t21; have u37 := run_underlying L.t37; have u46 := run_underlying L.t46; have u51 := run_underlying L.t51; have u70 := run_underlying L.t70; have u72 := run_underlying L.t72; have u75 := run_underlying L.t75; have u76 := run_underlying L.t76; have u105 := run_underlying L.t105; have u107 := run_underlying L.t107; have u119 := run_underlying L.t119; have u127 := run_underlying L.t127; have u138 := run_underlying L.t138; have u139 := run_underlying L.t139; have u164 := run_underlying L.t164
  have mixed := L.mixed
  have e118 : ∀ args w, (callFunc (ρ.f 118) args).run P w = .ok (.enter (ρ.f 118) args) w := enters_of L.f118 (by kernel_rfl) rfl
  have e165 : ∀ args w, (callFunc (ρ.f 165) args).run P w = .ok (.enter (ρ.f 165) args) w := enters_of L.f165 (by kernel_rfl) rfl
  have e166 : ∀ args w, (callFunc (ρ.f 166) args).run P w = .ok (.enter (ρ.f 166) args) w := enters_of L.f166 (by kernel_rfl) rfl
  have e167 : ∀ args w, (callFunc (ρ.f 167) args).run P w = .ok (.enter (ρ.f 167) args) w := enters_of L.f167 (by kernel_rfl) rfl
  have e168 : ∀ args w, (callFunc (ρ.f 168) args).run P w = .ok (.enter (ρ.f 168) args) w := enters_of L.f168 (by kernel_rfl) rfl
  have e169 : ∀ args w, (callFunc (ρ.f 169) args).run P w = .ok (.enter (ρ.f 169) args) w := enters_of L.f169 (by kernel_rfl) rfl
  have e270 : ∀ args w, (callFunc (ρ.f 270) args).run P w = .ok (.enter (ρ.f 270) args) w := enters_of L.f270 (by kernel_rfl) rfl
  have hlen : s.data.toList.length = s.size := (Lib.size_eq s).symm
  have HLEN := Aside0.mk hlen
  have HROW := Aside0.mk hrow
  have HS := Aside0.mk hs
  have HS0 := Aside0.mk hs0
  have HF := Aside0.mk hf
  clear hlen hrow hs hf
  obtain ⟨ANS, hANS⟩ : ∃ ANS, s.data.toList.map turnB = ANS := ⟨_, rfl⟩
  rw [hANS]
  have HANS := Aside0.mk hANS
  clear hANS
  go_enter L.f230, Body.n230_ntmps ρ
  go_wp2
  go_loopg [1] 0 (fun gk s1 wx => s1 = .string s ∧ Aside0 (wx.heap[w.heap.size]? = some (.cells #[.pointer none, .slice none 0 0] (ρ.t 72) (0, 0))) ∧ Aside0 (wx.heap[w.heap.size + 1]? = some (.stringIter s 0)) ∧ Aside0 (Below w.heap.size w wx))
  case atStart =>
    refine ⟨rfl, ⟨?_⟩, ⟨?_⟩, ⟨((Below.refl _ w).alloc (Nat.le_refl _) _).alloc (by simp) _⟩⟩
    · have h1 := heap_alloc_new w (.cells #[.pointer none, .slice none 0 0] (ρ.t 72))
      exact (Below.heap_alloc _ _ _ (by simp)).trans h1
    · have := World.iter_heap (w.alloc (.cells #[.pointer none, .slice none 0 0] (ρ.t 72))) s 0
      simpa using this
  case round =>
    obtain ⟨rfl, HFR, HIT, HBW⟩ := hrel
    obtain ⟨c, hc⟩ : ∃ c, s.data.toList[0]? = some c := ⟨_, List.getElem?_eq_getElem (by rw [HLEN.out]; exact HS0.out)⟩
    have hcv := byte_lit s 0 HS0.out c hc
    have hit2 := Lib.iterAt_heap wr (w.heap.size + 1) s 0 (0 + 1) HIT.out
    have hbw2 := Lib.below_iterAt HBW.out (k := w.heap.size + 1) (by omega) s (0 + 1)
    have hfr2 : (wr.iterAt (w.heap.size + 1) s (0 + 1)).heap[w.heap.size]? = _ := (Lib.iterAt_other wr (w.heap.size + 1) w.heap.size s (0 + 1) (by omega)).trans HFR.out
    have hnx0 := fun ty => Lib.run_next_ascii_at (P := P) wr (w.heap.size + 1) s 0 ty HIT.out HS0.out (by rw [hcv]; rcases HROW.out 0 c hc with rfl | rfl <;> decide)
    rw [hcv] at hnx0
    obtain ⟨W, hWd⟩ : ∃ W, wr.iterAt (w.heap.size + 1) s (0 + 1) = W := ⟨_, rfl⟩
    rw [hWd] at hnx0 hit2 hbw2 hfr2
    have HIT2 := Aside0.mk hit2
    have HBW2 := Aside0.mk hbw2
    have HFR2 := Aside0.mk hfr2
    clear HIT HBW HFR hit2 hbw2 hfr2 hWd hcv
    obtain ⟨c', hc', hturn⟩ : ∃ c' : UInt8, ((c = 60 ∧ c' = 62) ∨ (c = 62 ∧ c' = 60)) ∧ turnB c = c' := by
      rcases HROW.out 0 c hc with rfl | rfl
      · exact ⟨62, .inl ⟨rfl, rfl⟩, rfl⟩
      · exact ⟨60, .inr ⟨rfl, rfl⟩, rfl⟩
    obtain ⟨s2, hs2⟩ : ∃ s2, s.extract 1 s.size = s2 := ⟨_, rfl⟩
    have hl2 : s2.data.toList = s.data.toList.drop 1 := by rw [← hs2]; exact extract_one s
    have hz2 : s2.size = s.size - 1 := by rw [Lib.size_eq, hl2, List.length_drop, HLEN.out]
    have HS2 := Aside0.mk hs2
    have HL2 := Aside0.mk hl2
    have HZ2 := Aside0.mk hz2
    have HT := Aside0.mk (show s.data.toList.take 1 = [c] by rw [List.take_one, List.head?_eq_getElem?, hc]; rfl)
    have HTURN := Aside0.mk hturn
    clear hl2 hz2 hc hturn
    rcases hc' with ⟨rfl, rfl⟩ | ⟨rfl, rfl⟩
    · have hnx : ∀ ty, (Instr.next (.pointer (some ⟨w.heap.size + 1, 0, none⟩)) true ty).run P wr = .ok (.tuple #[.bool true, .int .i64 0, .int .i32 60]) W := hnx0
      clear hnx0
      have cS : Calls P g (#[.int .i32 60] ++ lb) W fun e w' => e = .returned (.int .i32 62) ∧ w' = W := HF.out W 60 (.inl rfl)
      have cR : Calls P (ρ.f 118) #[.int .i32 60] W fun e w' => e = .returned (.int .i64 1) ∧ w' = W := Any.utf8_RuneLen { L with } 60 W
      have hbs : w.heap.size ≤ W.heap.size := HBW2.out.size
      have cG := Any.Builder_Grow_fresh { L with } X w.heap.size w.heap.size (s.size + 4) W (Nat.le_refl _) HFR2.out hbs (by have := HS.out; omega)
      rw [show (((s.size + 4 : Nat) : Int)) = wrap64 ((s.size : Int) + 4) by have := HS.out; unfold wrap64; omega] at cG
      go_wp2_with (first | (go_at_fn g; go_must (refine cS.mono ?_; rintro e W' ⟨rfl, rfl⟩)) | (go_at_fn (ρ.f 118); go_must (refine cR.mono ?_; rintro e W3 ⟨rfl, rfl⟩)) | (go_at_fn (ρ.f 165); go_must (go_fit cG; rintro e W4 ⟨rfl, h4, b4⟩)))
      refine (Any.Builder_WriteString_k { L with } X w.heap.size w.heap.size [] ByteArray.empty W4 (Lib.IsBuilderF.of (Or.inr h4)) (by simp) (Nat.le_trans hbs b4.size)).mono ?_
      rintro e W5 ⟨rfl, h5w, b5, -⟩
      go_wp2
      refine (Any.Builder_WriteRune_k { L with } X w.heap.size w.heap.size _ 62 (by omega) (by omega) W5 (Or.inr h5w) (by simp [Lib.strCells_length]) (Nat.le_trans hbs (Nat.le_trans b4.size b5.size))).mono ?_
      rintro e W6 ⟨rfl, h6w, b6, -⟩
      have hb6 : Below w.heap.size w W6 := ((HBW2.out.trans b4).trans b5).trans b6
      have hcells : [] ++ Lib.strCells ByteArray.empty ++ Lib.runeCells 62 = Lib.byteCells [62] := by
        rfl
      rw [hcells] at h6w
      obtain ⟨g6, cap6, hc6, hcap6⟩ : ∃ g6 cap6, W6.cell? ⟨w.heap.size, 1, none⟩ = some (.slice (some ⟨g6, 0, none⟩) (Lib.byteCells [62]).length cap6) ∧ 1 ≤ cap6 := by
        obtain ⟨_, v6, hv6, hown6, _⟩ := h6w
        rcases hown6.2 with ⟨_, h0⟩ | ⟨g6, cap6, _, _, rfl, _, _, _, hnc, _⟩
        · exact absurd h0 (by simp [Lib.byteCells])
        · exact ⟨g6, cap6, by rw [Lib.cell_of_heap hv6]; rfl, by simp [Lib.byteCells] at hnc; omega⟩
      have hcapz : ¬ ((cap6 : Int) = 0) := by omega
      have hcapb : ((cap6 : Int) == 0) = false := by simp; omega
      have HB6 := Aside0.mk hb6
      have H6 := Aside0.mk h6w
      have HC6 := Aside0.mk hc6
      clear hb6 h6w hc6 b4 b5 b6 h4 h5w hcells cS cR cG hnx
      go_wp2
      refine (Any.Builder_Cap_cell { L with } w.heap.size _ _ cap6 W6 HC6.out).mono ?_
      rintro e W6' ⟨rfl, rfl⟩
      have hS1 : s.extract 1 s.size = s2 := HS2.out
      go_wp2
      clear hS1
      go_loopg [] s2.size (fun gk wx => ∃ p2 : Nat, Aside0 (Lib.IsBuilderF (ρ.t 72) (ρ.t 5) w.heap.size w.heap.size (Lib.byteCells ((s.data.toList.take (p2 + 1)).map turnB)) wx) ∧ Aside0 (wx.heap[W6'.heap.size]? = some (.stringIter s2 p2)) ∧ Aside0 (Below w.heap.size w wx) ∧ Aside0 (p2 + gk = s2.size))
      case atStart =>
        refine ⟨0, ⟨?_⟩, ⟨World.iter_heap W6' s2 0⟩, ⟨HB6.out.alloc HB6.out.size _⟩, ⟨by omega⟩⟩
        rw [Nat.zero_add, HT.out]
        show Lib.IsBuilderF _ _ _ _ (Lib.byteCells [turnB 60]) _
        rw [HTURN.out]
        exact Lib.IsBuilderF.alloc (Or.inr H6.out) _
      case round =>
        obtain ⟨p2, HI, HIT3, HBW3, HK⟩ := hrel
        have hszI : W6'.heap.size < wr.heap.size := (Array.getElem?_eq_some_iff.1 HIT3.out).1
        have hBI : w.heap.size ≤ W6'.heap.size := HB6.out.size
        have hBlt : w.heap.size < W6'.heap.size := H6.out.lt
        by_cases hlt2 : p2 < s2.size
        · obtain ⟨g2, rfl⟩ : ∃ g2, gk = g2 + 1 := ⟨gk - 1, by have := HK.out; omega⟩
          obtain ⟨d, hd⟩ : ∃ d, s2.data.toList[p2]? = some d := ⟨_, List.getElem?_eq_getElem (by rw [← Lib.size_eq]; exact hlt2)⟩
          have hdv := byte_lit s2 p2 hlt2 d hd
          have hds : s.data.toList[p2 + 1]? = some d := by
            rw [HL2.out, List.getElem?_drop, Nat.add_comm] at hd
            exact hd
          have hdr := HROW.out _ d hds
          have hnx0 := fun ty => Lib.run_next_ascii_at (P := P) wr W6'.heap.size s2 p2 ty HIT3.out hlt2 (by rw [hdv]; rcases hdr with rfl | rfl <;> decide)
          rw [hdv] at hnx0
          have hI2 := HI.out.iterAt HIT3.out (p2 + 1)
          have hit2 := Lib.iterAt_heap wr W6'.heap.size s2 p2 (p2 + 1) HIT3.out
          have hbw2 := Lib.below_iterAt HBW3.out (k := W6'.heap.size) hBI s2 (p2 + 1)
          have hsz2 : w.heap.size ≤ (wr.iterAt W6'.heap.size s2 (p2 + 1)).heap.size := by rw [Lib.iterAt_size]; omega
          obtain ⟨Wa, hWa⟩ : ∃ Wa, wr.iterAt W6'.heap.size s2 (p2 + 1) = Wa := ⟨_, rfl⟩
          rw [hWa] at hnx0 hI2 hit2 hbw2 hsz2
          have htk : s.data.toList.take (p2 + 1 + 1) = s.data.toList.take (p2 + 1) ++ [d] := by rw [List.take_add_one, hds]; rfl
          have HTK := Aside0.mk htk
          have HI2 := Aside0.mk hI2
          have HIT4 := Aside0.mk hit2
          have HBW4 := Aside0.mk hbw2
          clear HI HIT3 HBW3 hI2 hit2 hbw2 hWa htk hdv hd hds
          rcases hdr with rfl | rfl
          · have hnx : ∀ ty, (Instr.next (.pointer (some ⟨W6'.heap.size, 0, none⟩)) true ty).run P wr = .ok (.tuple #[.bool true, .int .i64 p2, .int .i32 60]) Wa := hnx0
            clear hnx0
            have cS2 : Calls P g (#[.int .i32 60] ++ lb) Wa fun e w' => e = .returned (.int .i32 62) ∧ w' = Wa := HF.out Wa 60 (.inl rfl)
            go_wp2_with (go_at_fn g; go_must (refine cS2.mono ?_; rintro e W' ⟨rfl, rfl⟩))
            refine (Any.Builder_WriteByte_k { L with } X w.heap.size w.heap.size _ 62 _ HI2.out (by rw [Lib.byteCells_length, List.length_map, List.length_take]; have := HLEN.out; have := HS.out; omega) hsz2).mono ?_
            rintro e W7 ⟨rfl, h7, b7, k7⟩
            have H7 := Aside0.mk h7
            have B7 := Aside0.mk b7
            have K7 := Aside0.mk k7
            clear h7 b7 k7 cS2 hnx
            go_wp2
            go_roundg g2
            case measure => omega
            case rel =>
              refine ⟨p2 + 1, ⟨Or.inr ?_⟩, ⟨K7.out.iter HIT4.out (by omega)⟩, ⟨HBW4.out.trans B7.out⟩, ⟨by have := HK.out; omega⟩⟩
              rw [HTK.out, List.map_append, Lib.byteCells_append]
              exact H7.out
          · have hnx : ∀ ty, (Instr.next (.pointer (some ⟨W6'.heap.size, 0, none⟩)) true ty).run P wr = .ok (.tuple #[.bool true, .int .i64 p2, .int .i32 62]) Wa := hnx0
            clear hnx0
            have cS2 : Calls P g (#[.int .i32 62] ++ lb) Wa fun e w' => e = .returned (.int .i32 60) ∧ w' = Wa := HF.out Wa 62 (.inr rfl)
            go_wp2_with (go_at_fn g; go_must (refine cS2.mono ?_; rintro e W' ⟨rfl, rfl⟩))
            refine (Any.Builder_WriteByte_k { L with } X w.heap.size w.heap.size _ 60 _ HI2.out (by rw [Lib.byteCells_length, List.length_map, List.length_take]; have := HLEN.out; have := HS.out; omega) hsz2).mono ?_
            rintro e W7 ⟨rfl, h7, b7, k7⟩
            have H7 := Aside0.mk h7
            have B7 := Aside0.mk b7
            have K7 := Aside0.mk k7
            clear h7 b7 k7 cS2 hnx
            go_wp2
            go_roundg g2
            case measure => omega
            case rel =>
              refine ⟨p2 + 1, ⟨Or.inr ?_⟩, ⟨K7.out.iter HIT4.out (by omega)⟩, ⟨HBW4.out.trans B7.out⟩, ⟨by have := HK.out; omega⟩⟩
              rw [HTK.out, List.map_append, Lib.byteCells_append]
              exact H7.out
        · obtain rfl : p2 = s2.size := by have := HK.out; omega
          have hnx : ∀ ty, (Instr.next (.pointer (some ⟨W6'.heap.size, 0, none⟩)) true ty).run P wr = _ := fun ty => Lib.run_next_end_at wr W6'.heap.size s2 s2.size ty HIT3.out hlt2
          go_wp2
          refine (Any.Builder_String_any_f { L with } X w.heap.size w.heap.size _ wr HI.out (by omega)).mono ?_
          rintro e W8 ⟨rfl, _, b8⟩
          go_wp2
          go_ret
          refine ⟨?_, HBW3.out.trans b8⟩
          rw [← HANS.out, List.take_of_length_le (by first | (rw [HLEN.out]; have := HZ2.out; omega) | (rw [List.length_map, HLEN.out]; have := HZ2.out; omega))]
          rfl
    · have hnx : ∀ ty, (Instr.next (.pointer (some ⟨w.heap.size + 1, 0, none⟩)) true ty).run P wr = .ok (.tuple #[.bool true, .int .i64 0, .int .i32 62]) W := hnx0
      clear hnx0
      have cS : Calls P g (#[.int .i32 62] ++ lb) W fun e w' => e = .returned (.int .i32 60) ∧ w' = W := HF.out W 62 (.inr rfl)
      have cR : Calls P (ρ.f 118) #[.int .i32 62] W fun e w' => e = .returned (.int .i64 1) ∧ w' = W := Any.utf8_RuneLen { L with } 62 W
      have hbs : w.heap.size ≤ W.heap.size := HBW2.out.size
      have cG := Any.Builder_Grow_fresh { L with } X w.heap.size w.heap.size (s.size + 4) W (Nat.le_refl _) HFR2.out hbs (by have := HS.out; omega)
      rw [show (((s.size + 4 : Nat) : Int)) = wrap64 ((s.size : Int) + 4) by have := HS.out; unfold wrap64; omega] at cG
      go_wp2_with (first | (go_at_fn g; go_must (refine cS.mono ?_; rintro e W' ⟨rfl, rfl⟩)) | (go_at_fn (ρ.f 118); go_must (refine cR.mono ?_; rintro e W3 ⟨rfl, rfl⟩)) | (go_at_fn (ρ.f 165); go_must (go_fit cG; rintro e W4 ⟨rfl, h4, b4⟩)))
      refine (Any.Builder_WriteString_k { L with } X w.heap.size w.heap.size [] ByteArray.empty W4 (Lib.IsBuilderF.of (Or.inr h4)) (by simp) (Nat.le_trans hbs b4.size)).mono ?_
      rintro e W5 ⟨rfl, h5w, b5, -⟩
      go_wp2
      refine (Any.Builder_WriteRune_k { L with } X w.heap.size w.heap.size _ 60 (by omega) (by omega) W5 (Or.inr h5w) (by simp [Lib.strCells_length]) (Nat.le_trans hbs (Nat.le_trans b4.size b5.size))).mono ?_
      rintro e W6 ⟨rfl, h6w, b6, -⟩
      have hb6 : Below w.heap.size w W6 := ((HBW2.out.trans b4).trans b5).trans b6
      have hcells : [] ++ Lib.strCells ByteArray.empty ++ Lib.runeCells 60 = Lib.byteCells [60] := by
        rfl
      rw [hcells] at h6w
      obtain ⟨g6, cap6, hc6, hcap6⟩ : ∃ g6 cap6, W6.cell? ⟨w.heap.size, 1, none⟩ = some (.slice (some ⟨g6, 0, none⟩) (Lib.byteCells [60]).length cap6) ∧ 1 ≤ cap6 := by
        obtain ⟨_, v6, hv6, hown6, _⟩ := h6w
        rcases hown6.2 with ⟨_, h0⟩ | ⟨g6, cap6, _, _, rfl, _, _, _, hnc, _⟩
        · exact absurd h0 (by simp [Lib.byteCells])
        · exact ⟨g6, cap6, by rw [Lib.cell_of_heap hv6]; rfl, by simp [Lib.byteCells] at hnc; omega⟩
      have hcapz : ¬ ((cap6 : Int) = 0) := by omega
      have hcapb : ((cap6 : Int) == 0) = false := by simp; omega
      have HB6 := Aside0.mk hb6
      have H6 := Aside0.mk h6w
      have HC6 := Aside0.mk hc6
      clear hb6 h6w hc6 b4 b5 b6 h4 h5w hcells cS cR cG hnx
      go_wp2
      refine (Any.Builder_Cap_cell { L with } w.heap.size _ _ cap6 W6 HC6.out).mono ?_
      rintro e W6' ⟨rfl, rfl⟩
      have hS1 : s.extract 1 s.size = s2 := HS2.out
      go_wp2
      clear hS1
      go_loopg [] s2.size (fun gk wx => ∃ p2 : Nat, Aside0 (Lib.IsBuilderF (ρ.t 72) (ρ.t 5) w.heap.size w.heap.size (Lib.byteCells ((s.data.toList.take (p2 + 1)).map turnB)) wx) ∧ Aside0 (wx.heap[W6'.heap.size]? = some (.stringIter s2 p2)) ∧ Aside0 (Below w.heap.size w wx) ∧ Aside0 (p2 + gk = s2.size))
      case atStart =>
        refine ⟨0, ⟨?_⟩, ⟨World.iter_heap W6' s2 0⟩, ⟨HB6.out.alloc HB6.out.size _⟩, ⟨by omega⟩⟩
        rw [Nat.zero_add, HT.out]
        show Lib.IsBuilderF _ _ _ _ (Lib.byteCells [turnB 62]) _
        rw [HTURN.out]
        exact Lib.IsBuilderF.alloc (Or.inr H6.out) _
      case round =>
        obtain ⟨p2, HI, HIT3, HBW3, HK⟩ := hrel
        have hszI : W6'.heap.size < wr.heap.size := (Array.getElem?_eq_some_iff.1 HIT3.out).1
        have hBI : w.heap.size ≤ W6'.heap.size := HB6.out.size
        have hBlt : w.heap.size < W6'.heap.size := H6.out.lt
        by_cases hlt2 : p2 < s2.size
        · obtain ⟨g2, rfl⟩ : ∃ g2, gk = g2 + 1 := ⟨gk - 1, by have := HK.out; omega⟩
          obtain ⟨d, hd⟩ : ∃ d, s2.data.toList[p2]? = some d := ⟨_, List.getElem?_eq_getElem (by rw [← Lib.size_eq]; exact hlt2)⟩
          have hdv := byte_lit s2 p2 hlt2 d hd
          have hds : s.data.toList[p2 + 1]? = some d := by
            rw [HL2.out, List.getElem?_drop, Nat.add_comm] at hd
            exact hd
          have hdr := HROW.out _ d hds
          have hnx0 := fun ty => Lib.run_next_ascii_at (P := P) wr W6'.heap.size s2 p2 ty HIT3.out hlt2 (by rw [hdv]; rcases hdr with rfl | rfl <;> decide)
          rw [hdv] at hnx0
          have hI2 := HI.out.iterAt HIT3.out (p2 + 1)
          have hit2 := Lib.iterAt_heap wr W6'.heap.size s2 p2 (p2 + 1) HIT3.out
          have hbw2 := Lib.below_iterAt HBW3.out (k := W6'.heap.size) hBI s2 (p2 + 1)
          have hsz2 : w.heap.size ≤ (wr.iterAt W6'.heap.size s2 (p2 + 1)).heap.size := by rw [Lib.iterAt_size]; omega
          obtain ⟨Wa, hWa⟩ : ∃ Wa, wr.iterAt W6'.heap.size s2 (p2 + 1) = Wa := ⟨_, rfl⟩
          rw [hWa] at hnx0 hI2 hit2 hbw2 hsz2
          have htk : s.data.toList.take (p2 + 1 + 1) = s.data.toList.take (p2 + 1) ++ [d] := by rw [List.take_add_one, hds]; rfl
          have HTK := Aside0.mk htk
          have HI2 := Aside0.mk hI2
          have HIT4 := Aside0.mk hit2
          have HBW4 := Aside0.mk hbw2
          clear HI HIT3 HBW3 hI2 hit2 hbw2 hWa htk hdv hd hds
          rcases hdr with rfl | rfl
          · have hnx : ∀ ty, (Instr.next (.pointer (some ⟨W6'.heap.size, 0, none⟩)) true ty).run P wr = .ok (.tuple #[.bool true, .int .i64 p2, .int .i32 60]) Wa := hnx0
            clear hnx0
            have cS2 : Calls P g (#[.int .i32 60] ++ lb) Wa fun e w' => e = .returned (.int .i32 62) ∧ w' = Wa := HF.out Wa 60 (.inl rfl)
            go_wp2_with (go_at_fn g; go_must (refine cS2.mono ?_; rintro e W' ⟨rfl, rfl⟩))
            refine (Any.Builder_WriteByte_k { L with } X w.heap.size w.heap.size _ 62 _ HI2.out (by rw [Lib.byteCells_length, List.length_map, List.length_take]; have := HLEN.out; have := HS.out; omega) hsz2).mono ?_
            rintro e W7 ⟨rfl, h7, b7, k7⟩
            have H7 := Aside0.mk h7
            have B7 := Aside0.mk b7
            have K7 := Aside0.mk k7
            clear h7 b7 k7 cS2 hnx
            go_wp2
            go_roundg g2
            case measure => omega
            case rel =>
              refine ⟨p2 + 1, ⟨Or.inr ?_⟩, ⟨K7.out.iter HIT4.out (by omega)⟩, ⟨HBW4.out.trans B7.out⟩, ⟨by have := HK.out; omega⟩⟩
              rw [HTK.out, List.map_append, Lib.byteCells_append]
              exact H7.out
          · have hnx : ∀ ty, (Instr.next (.pointer (some ⟨W6'.heap.size, 0, none⟩)) true ty).run P wr = .ok (.tuple #[.bool true, .int .i64 p2, .int .i32 62]) Wa := hnx0
            clear hnx0
            have cS2 : Calls P g (#[.int .i32 62] ++ lb) Wa fun e w' => e = .returned (.int .i32 60) ∧ w' = Wa := HF.out Wa 62 (.inr rfl)
            go_wp2_with (go_at_fn g; go_must (refine cS2.mono ?_; rintro e W' ⟨rfl, rfl⟩))
            refine (Any.Builder_WriteByte_k { L with } X w.heap.size w.heap.size _ 60 _ HI2.out (by rw [Lib.byteCells_length, List.length_map, List.length_take]; have := HLEN.out; have := HS.out; omega) hsz2).mono ?_
            rintro e W7 ⟨rfl, h7, b7, k7⟩
            have H7 := Aside0.mk h7
            have B7 := Aside0.mk b7
            have K7 := Aside0.mk k7
            clear h7 b7 k7 cS2 hnx
            go_wp2
            go_roundg g2
            case measure => omega
            case rel =>
              refine ⟨p2 + 1, ⟨Or.inr ?_⟩, ⟨K7.out.iter HIT4.out (by omega)⟩, ⟨HBW4.out.trans B7.out⟩, ⟨by have := HK.out; omega⟩⟩
              rw [HTK.out, List.map_append, Lib.byteCells_append]
              exact H7.out
        · obtain rfl : p2 = s2.size := by have := HK.out; omega
          have hnx : ∀ ty, (Instr.next (.pointer (some ⟨W6'.heap.size, 0, none⟩)) true ty).run P wr = _ := fun ty => Lib.run_next_end_at wr W6'.heap.size s2 s2.size ty HIT3.out hlt2
          go_wp2
          refine (Any.Builder_String_any_f { L with } X w.heap.size w.heap.size _ wr HI.out (by omega)).mono ?_
          rintro e W8 ⟨rfl, _, b8⟩
          go_wp2
          go_ret
          refine ⟨?_, HBW3.out.trans b8⟩
          rw [← HANS.out, List.take_of_length_le (by first | (rw [HLEN.out]; have := HZ2.out; omega) | (rw [List.length_map, HLEN.out]; have := HZ2.out; omega))]
          rfl
end
open Go.RowKit Go.Proofs.YtkipdkkiojbbeaaDoorW.PrintWords Go.Proofs.YtkipdkkiojbbeaaDoorW.PrintLast Go.Proofs.YtkipdkkiojbbeaaDoorW.PrintMore Go.Proofs.YtkipdkkiojbbeaaDoor.X
set_option linter.unusedVariables false
set_option linter.unusedSimpArgs false
/-- The function that a soldier is turned by. -/
theorem turn1 (c : Int) (h : c = 60 ∨ c = 62) (w : World) : Calls Tryd.prog 50 #[.int .i32 c] w fun e w' => e = .returned (.int .i32 (122 - c)) ∧ w' = w := by
  rcases h with rfl | rfl
  · go_enter Tryd.func50, Tryd.ntmps50
    go_wp2
    go_ret
    exact ⟨rfl, rfl⟩
  · go_enter Tryd.func50, Tryd.ntmps50
    go_wp2
    go_ret
    exact ⟨rfl, rfl⟩
def impl_turned.f (a0 : ByteArray) : Option ByteArray := if rowB a0 = true then some ⟨(a0.data.toList.map turnB).toArray⟩ else none
theorem impl_turned.calls (a0 : ByteArray) (r : ByteArray) (w : World) (h : impl_turned.f a0 = some r) : Calls Tryd.prog 43 #[.string a0] w fun e w' => e = .returned (.string r) ∧ Below w.heap.size w w' := by
  unfold impl_turned.f at h
  by_cases hp : rowB a0 = true
  case neg => rw [if_neg hp] at h; cases h
  rw [if_pos hp] at h
  obtain rfl := Option.some.inj h
  clear h
  unfold rowB at hp
  rw [Bool.and_eq_true, decide_eq_true_eq] at hp
  obtain ⟨⟨h1, h2⟩, h3⟩ := hp
  have hall : ∀ (i : Nat) (c : UInt8), a0.data.toList[i]? = some c → c = 60 ∨ c = 62 := by
    intro i c hc
    have := List.all_eq_true.1 h3 c (List.mem_of_getElem? hc)
    unfold isFace at this
    simpa using this
  have cM := map_row (P := Tryd.prog) Tryd.lays230 Tryd.Builder_Extra_230 50 #[] (by intro args w; kernel_rfl) a0 w h2 h1 hall (fun W c hc => turn1 c hc W)
  have CM := Aside0.mk cM
  clear cM h1 h2 h3 hall
  go_enter Tryd.func43, Tryd.ntmps43
  go_wp2_with (go_at_call 49; (refine (show Calls Tryd.prog 49 _ _ _ from CM.out).mono ?_); rintro e w2 ⟨rfl, hb⟩; have HB := Aside0.mk hb; clear hb)
  go_ret
  exact ⟨rfl, HB.out⟩
end Go.Proofs.YtkipdkkiojbbeaaDoor.A
