/- A text of files read back: what the program's and the reference's readings come to; no Go and no memory here. -/
import Derived.Test.YtohhlkehglahhaaGreatDoorAx23
import Derived.Test.YtohhlkehglahhaaGreatDoorAx24
import Derived.Test.YtohhlkehglahhaaGreatDoorGivA
import Derived.Test.YtohhlkehglahhaaGreatDoorGivL
import Derived.Test.YtohhlkehglahhaaGreatDoorPureFText
import Derived.Test.YtohhlkehglahhaaGreatDoorPureFiles
import Derived.Test.YtohhlkehglahhaaGreatDoorPureNum
namespace Go.Proofs.YtohhlkehglahhaaGreatDoor.Pure
open Go.RowKit Go.Proofs.YtohhlkehglahhaaGreatDoor.A Go.Proofs.YtohhlkehglahhaaGreatDoorW.PrintWords Go.Proofs.YtohhlkehglahhaaGreatDoorW.PrintLast Go.Proofs.YtohhlkehglahhaaGreatDoorW.PrintMore
set_option linter.unusedVariables false
set_option linter.unusedSimpArgs false
def pcs (c : UInt8) : List UInt8 → List UInt8 → List (List UInt8)
  | cur, [] => [cur]
  | cur, b :: l => if b = c then cur :: pcs c [] l else pcs c (cur ++ [b]) l
theorem pcs_len (c : UInt8) : ∀ (s cur : List UInt8), (pcs c cur s).length ≤ s.length + 1
  | [], cur => by simp [pcs]
  | b :: l, cur => by
    have h1 := pcs_len c l []
    have h2 := pcs_len c l (cur ++ [b])
    unfold pcs
    split
    · simp only [List.length_cons]; omega
    · simp only [List.length_cons]; omega
theorem pcs_mem (c : UInt8) : ∀ (s cur : List UInt8), ∀ w ∈ pcs c cur s, w.length ≤ cur.length + s.length
  | [], cur, w, hw => by
    simp only [pcs, List.mem_singleton] at hw
    subst hw
    simp
  | b :: l, cur, w, hw => by
    unfold pcs at hw
    split at hw
    · rcases List.mem_cons.1 hw with rfl | h
      · simp
      · have := pcs_mem c l [] w h
        simp only [List.length_nil, List.length_cons] at this ⊢
        omega
    · have := pcs_mem c l (cur ++ [b]) w hw
      simp only [List.length_append, List.length_cons, List.length_nil] at this ⊢
      omega
theorem split_pcs (c : UInt8) : ∀ (s cur : List UInt8), ∃ p ps, Lib.splitK [c] 0 (Lib.count s [c]) s = p :: ps ∧ pcs c cur s = (cur ++ p) :: ps
  | [], cur => ⟨[], [], by rw [Lib.count_one]; rfl, by simp [pcs]⟩
  | b :: l, cur => by
    by_cases h : b = c
    · subst h
      obtain ⟨p, ps, h1, h2⟩ := split_pcs b l []
      refine ⟨[], p :: ps, ?_, ?_⟩
      · have hi : Lib.index (b :: l) [b] = 0 := by simp [Lib.index]
        rw [Lib.count_cons_eq, Nat.add_comm 1, Lib.splitK, hi, if_neg (by decide)]
        simp [h1]
      · simp [pcs, h2]
    · obtain ⟨p, ps, h1, h2⟩ := split_pcs c l (cur ++ [b])
      rw [Lib.count_cons_ne b c l h]
      cases e : Lib.count l [c] with
      | zero =>
        rw [e] at h1
        obtain ⟨rfl, rfl⟩ := List.cons.inj (h1 : l :: [] = p :: ps)
        exact ⟨b :: l, [], rfl, by simp [pcs, h, h2]⟩
      | succ n =>
        rw [e] at h1
        have hne : Lib.index l [c] ≠ -1 := fun hi => by have := Lib.count_miss hi; omega
        have hge := Lib.index_ge l [c]
        have hi : Lib.index (b :: l) [c] = Lib.index l [c] + 1 := by
          rw [Lib.index, if_neg (by simp [List.isPrefixOf]; exact fun e => h e.symm), if_neg (by simpa using hne)]
        rw [Lib.splitK, if_neg (by simpa using hne)] at h1
        obtain ⟨rfl, rfl⟩ := List.cons.inj h1
        refine ⟨b :: l.take ((Lib.index l [c]).toNat + 0), Lib.splitK [c] 0 n (l.drop ((Lib.index l [c]).toNat + [c].length)), ?_, ?_⟩
        · rw [Lib.splitK, hi, if_neg (by simp; omega), show (Lib.index l [c] + 1).toNat = (Lib.index l [c]).toNat + 1 by omega]
          rfl
        · simp only [pcs, if_neg h, h2]
          simp
theorem B_data (x : ByteArray) : B x.data.toList = x := by cases x; simp [B]
theorem gosplit (c : UInt8) (s : List UInt8) (h : s.length < 4294967281) : strings_Split.f (B s) (B [c]) = some ((pcs c [] s).map B) := by
  unfold strings_Split.f
  rw [if_pos ⟨rfl, h⟩]
  congr 1
  obtain ⟨p, ps, h1, h2⟩ := split_pcs c s []
  have e := Lib.splitB_data (B [c]) 0 (Lib.countB (B s) (B [c])) (B s)
  have e2 : Lib.splitK (B [c]).data.toList 0 (Lib.countB (B s) (B [c])) (B s).data.toList = pcs c [] s := by
    rw [h2]
    exact h1
  rw [e2] at e
  rw [← e, List.map_map]
  have : (B ∘ fun x : ByteArray => x.data.toList) = id := by funext x; exact B_data x
  rw [this, List.map_id]
theorem B_extract (s : List UInt8) (a b : Nat) : (B s).extract a b = B ((s.take b).drop a) := by
  rw [← B_data ((B s).extract a b), Lib.extract_data, List.drop_take]
  rfl
theorem bt_B (s : List UInt8) (i : Nat) (h : i < s.length) : bt (B s) (i : Int) = (s[i].toNat : Int) := by
  unfold bt
  rw [dif_pos (show ((i : Int).toNat) < (B s).size by rw [B_size]; omega)]
  rfl
theorem s_split (c : UInt8) (s : List UInt8) (hs : s.length ≤ 1000000) (d : Nat) : ∀ (k j i : Nat) (acc : List ByteArray), i + d = s.length → j ≤ i → acc.length ≤ i → d < k →
    Qy1.l0 k (B s) (c.toNat : Int) acc (j : Int) (i : Int) = some (acc ++ (pcs c ((s.take i).drop j) (s.drop i)).map B) := by
  induction d with
  | zero =>
    intro k j i acc h hj ha hk
    obtain ⟨k, rfl⟩ := fuel1 (show 0 < k by omega)
    simp only [Qy1.l0]
    rw [if_neg (by rw [B_size]; omega), if_pos (by omega), if_pos (by rw [B_size]; omega), if_pos (by omega), List.drop_of_length_le (show s.length ≤ i by omega), B_size, B_extract, show i = s.length by omega]
    rfl
  | succ d ih =>
    intro k j i acc h hj ha hk
    obtain ⟨k, rfl⟩ := fuel1 (show 0 < k by omega)
    have hi : i < s.length := by omega
    have hd : s.drop i = s[i] :: s.drop (i + 1) := List.drop_eq_getElem_cons hi
    simp only [Qy1.l0]
    rw [if_pos (by rw [B_size]; omega), if_pos (by omega), bt_B s i hi, w_nat (by omega), hd]
    by_cases hc : s[i] = c
    · rw [if_pos (by rw [hc]), if_pos (by omega), if_pos (by omega), if_pos (by rw [B_size]; omega), if_pos (by omega), ih k (i + 1) (i + 1) _ (by omega) (by omega) (by rw [List.length_append, List.length_singleton]; omega) (by omega)]
      have e : (s.take (i + 1)).drop (i + 1) = [] := List.drop_of_length_le (by rw [List.length_take]; omega)
      rw [e, Int.toNat_natCast, Int.toNat_natCast, B_extract]
      simp only [pcs, if_pos hc, List.map_cons, List.append_assoc, List.singleton_append]
    · rw [if_neg (fun e => hc (UInt8.toNat_inj.1 (by omega))), ih k j (i + 1) acc (by omega) (by omega) (by omega) (by omega)]
      have e : (s.take (i + 1)).drop j = (s.take i).drop j ++ [s[i]] := by
        rw [List.take_succ_eq_append_getElem hi, List.drop_append_of_le_length (by rw [List.length_take]; omega)]
      rw [e]
      simp only [pcs, if_neg hc]
theorem Qy2 (c : UInt8) (s : List UInt8) (hs : s.length ≤ 1000000) (k : Nat) (hk : s.length < k) : Qy1.f k (B s) (c.toNat : Int) = some ((pcs c [] s).map B) := by
  have := s_split c s hs s.length k 0 0 [] (by omega) (by omega) (by simp) hk
  simpa [Qy1.f] using this
theorem read_ex (w : List UInt8) (hw : w.length ≤ 1000000) (d : Nat) : ∀ (i : Nat) (x : Int), i + d = w.length → ∃ v, ∀ k, d < k → Qk1.l0 k (B w) x (i : Int) = some v := by
  induction d with
  | zero =>
    intro i x h
    refine ⟨x, fun k hk => ?_⟩
    obtain ⟨k, rfl⟩ := fuel1 hk
    simp only [Qk1.l0]
    rw [if_neg (by rw [B_size]; omega)]
  | succ d ih =>
    intro i x h
    by_cases h1 : bt (B w) (i : Int) < 48
    · refine ⟨-1, fun k hk => ?_⟩
      obtain ⟨k, rfl⟩ := fuel1 (show 0 < k by omega)
      simp only [Qk1.l0]
      rw [if_pos (by rw [B_size]; omega), if_pos (by omega), if_pos h1]
    by_cases h2 : bt (B w) (i : Int) > 57
    · refine ⟨-1, fun k hk => ?_⟩
      obtain ⟨k, rfl⟩ := fuel1 (show 0 < k by omega)
      simp only [Qk1.l0]
      rw [if_pos (by rw [B_size]; omega), if_pos (by omega), if_neg h1, if_pos h2]
    obtain ⟨v, hv⟩ := ih (i + 1) (wrap64 ((wrap64 (10 * x)) + (((bt (B w) (i : Int)) - 48) % 256))) (by omega)
    refine ⟨v, fun k hk => ?_⟩
    obtain ⟨k, rfl⟩ := fuel1 (show 0 < k by omega)
    simp only [Qk1.l0]
    rw [if_pos (by rw [B_size]; omega), if_pos (by omega), if_neg h1, if_neg h2, w_nat (by omega)]
    exact hv k (by omega)
theorem read_j (w : List UInt8) (hw : w.length ≤ 1000000) (b : Bool) : ∃ v, ∀ k, w.length + 1 < k → Qk1.j0 k (B w) b = some v := by
  cases b with
  | true =>
    refine ⟨-1, fun k hk => ?_⟩
    obtain ⟨k, rfl⟩ := fuel1 (show 0 < k by omega)
    simp only [Qk1.j0]
    rw [if_pos trivial]
  | false =>
    obtain ⟨v, hv⟩ := read_ex w hw w.length 0 0 (by omega)
    refine ⟨v, fun k hk => ?_⟩
    obtain ⟨k, rfl⟩ := fuel1 (show 0 < k by omega)
    simp only [Qk1.j0]
    first | rw [if_neg Bool.false_ne_true] | rw [if_neg not_false] | simp only [Bool.false_eq_true, if_false]
    exact hv k (by omega)
theorem read_f (w : List UInt8) (hw : w.length ≤ 1000000) : ∃ v, ∀ k, w.length + 2 < k → Qk1.f k (B w) = some v := by
  unfold Qk1.f
  simp only [l1_eq, Option.bind_some]
  by_cases h : (1 : Int) ≤ ((B w).size : Int) ∧ ((B w).size : Int) ≤ 6
  · have hp : (0 : Int) < ((B w).size : Int) := by have := h.1; omega
    by_cases h0 : bt (B w) 0 = 48
    · obtain ⟨v, hv⟩ := read_j w hw (decide (((B w).size : Int) > 1))
      exact ⟨v, fun k hk => by rw [if_pos (decide_eq_true h), if_pos hp, if_pos h0]; exact hv k (by omega)⟩
    · obtain ⟨v, hv⟩ := read_j w hw false
      exact ⟨v, fun k hk => by rw [if_pos (decide_eq_true h), if_pos hp, if_neg h0]; exact hv k (by omega)⟩
  · obtain ⟨v, hv⟩ := read_j w hw true
    exact ⟨v, fun k hk => by rw [if_neg (fun e => h (of_decide_eq_true e))]; exact hv k (by omega)⟩
def rdW (w : List UInt8) : Int := (Qk1.f (w.length + 3) (B w)).getD 0
theorem read_w (w : List UInt8) (hw : w.length ≤ 1000000) (k : Nat) (hk : w.length + 2 < k) : Qk1.f k (B w) = some (rdW w) := by
  obtain ⟨v, hv⟩ := read_f w hw
  unfold rdW
  rw [hv k hk, hv _ (by omega)]
  rfl
theorem rdOf_B (ws : List (List UInt8)) (j : Nat) (h : j < ws.length) : rdOf ByteArray.empty (ws.map B) (j : Int) = B ws[j] := by
  unfold rdOf
  rw [Int.toNat_natCast, List.getD_eq_getElem?_getD, List.getElem?_map, List.getElem?_eq_getElem h]
  rfl
def endT (x0 : ByteArray) (out : List (List Int)) : List (List Int) × Bool := if goodB out = true ∧ (B (filL out)).toList = x0.toList then (out, true) else ([], false)
def sRow (line : List UInt8) : List Int := (pcs 44 [] line).map rdW
theorem s_words (x0 : ByteArray) (x4 : List (List Int)) (L : List ByteArray) (n i : Int) (ws : List (List UInt8)) (hw : ∀ w ∈ ws, w.length ≤ 1000000) (hl : ws.length ≤ 1000001) (d : Nat) : ∀ (k j : Nat) (x7 : List Int), j + d = ws.length → x7.length + d ≤ 2000000 → d + 1000010 < k →
    Qd1.l1 k x0 x4 x7 L n i (ws.map B) ((ws.map B).length : Int) (j : Int) = if x4.length < 5864062014805 then Qd1.l0 (k - d - 1) x0 (x4 ++ [x7 ++ (ws.drop j).map rdW]) L n (wrap64 (i + 1)) else none := by
  induction d with
  | zero =>
    intro k j x7 h h7 hk
    obtain ⟨k, rfl⟩ := fuel1 (show 0 < k by omega)
    simp only [Qd1.l1]
    rw [if_neg (by rw [List.length_map]; omega), List.drop_of_length_le (show ws.length ≤ j by omega), List.map_nil, List.append_nil, show k + 1 - 0 - 1 = k by omega]
  | succ d ih =>
    intro k j x7 h h7 hk
    obtain ⟨k, rfl⟩ := fuel1 (show 0 < k by omega)
    have hj : j < ws.length := by omega
    simp only [Qd1.l1]
    rw [if_pos (by rw [List.length_map]; omega), if_pos (by omega), if_pos (by rw [List.length_map]; omega), rdOf_B ws j hj, read_w _ (hw _ (List.getElem_mem hj)) k (by have := hw _ (List.getElem_mem hj); omega), Option.bind_some, if_pos (by omega), w_nat (by omega),
      ih k (j + 1) _ (by omega) (by rw [List.length_append, List.length_singleton]; omega) (by omega), show k + 1 - (d + 1) - 1 = k - d - 1 by omega, List.drop_eq_getElem_cons hj, List.map_cons, List.append_assoc, List.singleton_append]
theorem s_lines (x0 : ByteArray) (ls : List (List UInt8)) (hl : ls.length ≤ 1000001) (hw : ∀ l ∈ ls, l.length ≤ 1000000) (d : Nat) : ∀ (k i : Nat) (x4 : List (List Int)), i + d = ls.length → x4.length + d ≤ 2000000 → 3000000 * d + 3000000 < k →
    Qd1.l0 k x0 x4 (ls.map B) ((ls.map B).length : Int) (i : Int) = some (endT x0 (x4 ++ (ls.drop i).map sRow)) := by
  induction d with
  | zero =>
    intro k i x4 h h4 hk
    obtain ⟨k, rfl⟩ := fuel1 (show 0 < k by omega)
    simp only [Qd1.l0]
    rw [if_neg (by rw [List.length_map]; omega), List.drop_of_length_le (show ls.length ≤ i by omega), List.map_nil, List.append_nil, good_ok x4 k (by omega), Option.bind_some]
    unfold endT
    by_cases hg : goodB x4 = true
    · rw [if_pos hg, s_text x4 _ (fi_of x4 hg) k (by omega), Option.bind_some]
      by_cases ht : (B (filL x4)).toList = x0.toList
      · rw [if_pos ht, if_pos ⟨hg, ht⟩]
      · rw [if_neg ht, if_neg (fun e => ht e.2)]
    · rw [if_neg hg, if_neg (fun e => hg e.1)]
  | succ d ih =>
    intro k i x4 h h4 hk
    obtain ⟨k, rfl⟩ := fuel1 (show 0 < k by omega)
    have hi : i < ls.length := by omega
    have hl1 := hw _ (List.getElem_mem hi)
    have hp := pcs_len 44 ls[i] []
    have hm : ∀ w ∈ pcs 44 [] ls[i], w.length ≤ 1000000 := fun w h => by have := pcs_mem 44 ls[i] [] w h; simp only [List.length_nil] at this; omega
    have hs := Qy2 44 ls[i] hl1 k (by omega)
    rw [show (((44 : UInt8).toNat : Nat) : Int) = 44 from rfl] at hs
    simp only [Qd1.l0]
    rw [if_pos (by rw [List.length_map]; omega), if_pos (by omega), if_pos (by rw [List.length_map]; omega), rdOf_B ls i hi, hs, Option.bind_some]
    have := s_words x0 x4 (ls.map B) ((ls.map B).length : Int) (i : Int) (pcs 44 [] ls[i]) hm (by omega) (pcs 44 [] ls[i]).length k 0 [] (by omega) (by simp only [List.length_nil]; omega) (by omega)
    rw [show ((0 : Nat) : Int) = 0 from rfl] at this
    rw [this, if_pos (by omega), w_nat (by omega), ih _ (i + 1) _ (by omega) (by rw [List.length_append, List.length_singleton]; omega) (by omega), List.drop_eq_getElem_cons hi, List.map_cons, List.append_assoc, List.singleton_append, List.drop_zero, List.nil_append]
    rfl
def iaW (w : List UInt8) : Option Int := match Lib.atoiAll w with
  | .ok v => some v
  | _ => none
def rowI : List (List UInt8) → Option (List Int)
  | [] => some []
  | w :: ws => match iaW w with
    | none => none
    | some v => match rowI ws with
      | none => none
      | some vs => some (v :: vs)
def outI : List (List UInt8) → Option (List (List Int))
  | [] => some []
  | l :: ls => match rowI (pcs 44 [] l) with
    | none => none
    | some r => match outI ls with
      | none => none
      | some rs => some (r :: rs)
theorem ia_f (w : List UInt8) (hw : w.length ≤ 1048576) : ∃ p : Int × Option Int, strconv_Atoi.f (B w) = some p ∧ (iaW w = if p.2.isNone = true then some p.1 else none) := by
  unfold strconv_Atoi.f iaW
  rw [if_pos (show (B w).size ≤ 281474976710656 by rw [B_size]; omega)]
  show ∃ p : Int × Option Int, (match Lib.atoiAll w with
  | .ok v => some (v, none)
  | .«syntax» => some (0, some 0)
  | .range => some (Lib.atoiSat w, some 1)) = some p ∧ _
  cases Lib.atoiAll w with
  | ok v => exact ⟨_, rfl, rfl⟩
  | «syntax» => exact ⟨_, rfl, rfl⟩
  | range => exact ⟨_, rfl, rfl⟩
theorem i_words (x0 : ByteArray) (x4 : List (List Int)) (L : List ByteArray) (n i : Int) (ws : List (List UInt8)) (hw : ∀ w ∈ ws, w.length ≤ 1048576) (hl : ws.length ≤ 1048577) (d : Nat) : ∀ (k j : Nat) (x7 : List Int), j + d = ws.length → x7.length + d ≤ 2000000 → d < k →
    Qu.l1 k x0 x4 x7 L n i (ws.map B) ((ws.map B).length : Int) (j : Int) = match rowI (ws.drop j) with
      | none => some ([], false)
      | some r => if x4.length < 5864062014805 then Qu.l0 (k - d - 1) x0 (x4 ++ [x7 ++ r]) L n (wrap64 (i + 1)) else none := by
  induction d with
  | zero =>
    intro k j x7 h h7 hk
    obtain ⟨k, rfl⟩ := fuel1 (show 0 < k by omega)
    simp only [Qu.l1]
    rw [if_neg (by rw [List.length_map]; omega), List.drop_of_length_le (show ws.length ≤ j by omega)]
    simp only [rowI]
    rw [List.append_nil, show k + 1 - 0 - 1 = k by omega]
  | succ d ih =>
    intro k j x7 h h7 hk
    obtain ⟨k, rfl⟩ := fuel1 (show 0 < k by omega)
    have hj : j < ws.length := by omega
    obtain ⟨p, hp, hq⟩ := ia_f ws[j] (hw _ (List.getElem_mem hj))
    simp only [Qu.l1]
    rw [if_pos (by rw [List.length_map]; omega), if_pos (by omega), if_pos (by rw [List.length_map]; omega), rdOf_B ws j hj, hp, Option.bind_some, List.drop_eq_getElem_cons hj]
    simp only [rowI, hq]
    by_cases hn : p.2.isNone = true
    · rw [if_pos hn, if_pos hn, if_pos (by omega), w_nat (by omega), ih k (j + 1) _ (by omega) (by rw [List.length_append, List.length_singleton]; omega) (by omega), show k + 1 - (d + 1) - 1 = k - d - 1 by omega]
      cases rowI (ws.drop (j + 1)) with
      | none => rfl
      | some vs => simp only [List.append_assoc, List.singleton_append]
    · rw [if_neg hn, if_neg hn]
theorem i_lines (x0 : ByteArray) (ls : List (List UInt8)) (hl : ls.length ≤ 1048577) (hw : ∀ l ∈ ls, l.length ≤ 1048576) (d : Nat) : ∀ (k i : Nat) (x4 : List (List Int)), i + d = ls.length → x4.length + d ≤ 2000000 → 3000000 * d + 3000000 < k →
    Qu.l0 k x0 x4 (ls.map B) ((ls.map B).length : Int) (i : Int) = match outI (ls.drop i) with
      | none => some ([], false)
      | some o => some (endT x0 (x4 ++ o)) := by
  induction d with
  | zero =>
    intro k i x4 h h4 hk
    obtain ⟨k, rfl⟩ := fuel1 (show 0 < k by omega)
    simp only [Qu.l0]
    rw [if_neg (by rw [List.length_map]; omega), List.drop_of_length_le (show ls.length ≤ i by omega), are_ok x4, Option.bind_some]
    simp only [outI, List.append_nil]
    unfold endT
    by_cases hg : goodB x4 = true
    · rw [if_pos hg, i_text x4 _ (fi_of x4 hg) k (by omega), Option.bind_some]
      by_cases ht : (B (filL x4)).toList = x0.toList
      · rw [if_pos ht, if_pos ⟨hg, ht⟩]
      · rw [if_neg ht, if_neg (fun e => ht e.2)]
    · rw [if_neg hg, if_neg (fun e => hg e.1)]
  | succ d ih =>
    intro k i x4 h h4 hk
    obtain ⟨k, rfl⟩ := fuel1 (show 0 < k by omega)
    have hi : i < ls.length := by omega
    have hl1 := hw _ (List.getElem_mem hi)
    have hp := pcs_len 44 ls[i] []
    have hm : ∀ w ∈ pcs 44 [] ls[i], w.length ≤ 1048576 := fun w h => by have := pcs_mem 44 ls[i] [] w h; simp only [List.length_nil] at this; omega
    simp only [Qu.l0]
    rw [if_pos (by rw [List.length_map]; omega), if_pos (by omega), if_pos (by rw [List.length_map]; omega), rdOf_B ls i hi, B_comma, gosplit 44 ls[i] (by omega), Option.bind_some]
    have := i_words x0 x4 (ls.map B) ((ls.map B).length : Int) (i : Int) (pcs 44 [] ls[i]) hm (by omega) (pcs 44 [] ls[i]).length k 0 [] (by omega) (by simp only [List.length_nil]; omega) (by omega)
    rw [show ((0 : Nat) : Int) = 0 from rfl] at this
    rw [this, List.drop_eq_getElem_cons hi, List.drop_zero]
    simp only [outI]
    cases rowI (pcs 44 [] ls[i]) with
    | none => rfl
    | some r =>
      simp only
      rw [if_pos (by omega), w_nat (by omega), ih _ (i + 1) _ (by omega) (by rw [List.length_append, List.length_singleton]; omega) (by omega), List.nil_append]
      cases outI (ls.drop (i + 1)) with
      | none => rfl
      | some o => simp only [List.append_assoc, List.singleton_append]
theorem pcs_app (c : UInt8) : ∀ (w cur rest : List UInt8), (∀ b ∈ w, b ≠ c) → pcs c cur (w ++ rest) = pcs c (cur ++ w) rest
  | [], cur, rest, _ => by simp
  | b :: w, cur, rest, h => by
    rw [List.cons_append]
    simp only [pcs]
    rw [if_neg (h b List.mem_cons_self), pcs_app c w (cur ++ [b]) rest (fun x hx => h x (List.mem_cons_of_mem _ hx)), List.append_assoc, List.singleton_append]
theorem pcs_tail (c : UInt8) : ∀ (ws : List (List UInt8)) (w cur : List UInt8), (∀ b ∈ w, b ≠ c) → (∀ v ∈ ws, ∀ b ∈ v, b ≠ c) → pcs c cur (w ++ Lib.joinTail [c] ws) = (cur ++ w) :: ws
  | [], w, cur, h, _ => by
    rw [pcs_app c w cur _ h]
    simp [Lib.joinTail, pcs]
  | v :: vs, w, cur, h, hv => by
    have e : Lib.joinTail [c] (v :: vs) = c :: (v ++ Lib.joinTail [c] vs) := by simp [Lib.joinTail]
    rw [pcs_app c w cur _ h, e]
    simp only [pcs]
    rw [if_pos trivial, pcs_tail c vs v [] (hv v List.mem_cons_self) (fun x hx => hv x (List.mem_cons_of_mem _ hx)), List.nil_append]
theorem pcs_join (c : UInt8) (ws : List (List UInt8)) (hne : 1 ≤ ws.length) (h : ∀ v ∈ ws, ∀ b ∈ v, b ≠ c) : pcs c [] (Lib.join ws [c]) = ws := by
  cases ws with
  | nil => simp at hne
  | cons w ws =>
    rw [Lib.join_cons, pcs_tail c ws w [] (h w List.mem_cons_self) (fun x hx => h x (List.mem_cons_of_mem _ hx)), List.nil_append]
theorem mem_tail (c : UInt8) : ∀ (ws : List (List UInt8)) (b : UInt8), b ∈ Lib.joinTail [c] ws → b = c ∨ ∃ w ∈ ws, b ∈ w
  | [], b, h => by simp [Lib.joinTail] at h
  | v :: vs, b, h => by
    have e : Lib.joinTail [c] (v :: vs) = c :: (v ++ Lib.joinTail [c] vs) := by simp [Lib.joinTail]
    rw [e, List.mem_cons, List.mem_append] at h
    rcases h with h | h | h
    · exact .inl h
    · exact .inr ⟨v, List.mem_cons_self, h⟩
    · rcases mem_tail c vs b h with h | ⟨w, hw, hb⟩
      · exact .inl h
      · exact .inr ⟨w, List.mem_cons_of_mem _ hw, hb⟩
theorem mem_join (c : UInt8) (ws : List (List UInt8)) (b : UInt8) (h : b ∈ Lib.join ws [c]) : b = c ∨ ∃ w ∈ ws, b ∈ w := by
  cases ws with
  | nil => simp [Lib.join_nil] at h
  | cons w ws =>
    rw [Lib.join_cons, List.mem_append] at h
    rcases h with h | h
    · exact .inr ⟨w, List.mem_cons_self, h⟩
    · rcases mem_tail c ws b h with h | ⟨w, hw, hb⟩
      · exact .inl h
      · exact .inr ⟨w, List.mem_cons_of_mem _ hw, hb⟩
def dg3 (n : Nat) : List UInt8 := if n < 10 then [UInt8.ofNat (48 + n)] else if n < 100 then [UInt8.ofNat (48 + n / 10), UInt8.ofNat (48 + n % 10)] else [UInt8.ofNat (48 + n / 10 / 10), UInt8.ofNat (48 + n / 10 % 10), UInt8.ofNat (48 + n % 10)]
theorem dec3 (n : Nat) (h : n < 1000) : Lib.decDigits n = dg3 n := by
  unfold dg3
  by_cases h1 : n < 10
  · rw [if_pos h1, Lib.decDigits_one h1]
  by_cases h2 : n < 100
  · rw [if_neg h1, if_pos h2, Lib.decDigits_two h1 h2]
  rw [if_neg h1, if_neg h2, Lib.decDigits, dif_neg h1, Lib.decDigits_two (show ¬ n / 10 < 10 by omega) (by omega)]
  rfl
set_option maxRecDepth 100000 in
theorem dg_tab : ∀ n < 1000, (dg3 n).length ≤ 3 ∧ (∀ b ∈ dg3 n, b ≠ 44 ∧ b ≠ 47) ∧ Lib.atoiAll (dg3 n) = .ok (n : Int) ∧ Qk1.f 10 (B (dg3 n)) = some (n : Int) := by decide +kernel
theorem dig_at (h : Int) (h1 : 1 ≤ h) (h2 : h ≤ 999) : (digL h).length ≤ 3 ∧ (∀ b ∈ digL h, b ≠ 44 ∧ b ≠ 47) ∧ iaW (digL h) = some h ∧ rdW (digL h) = h := by
  have e : digL h = dg3 h.toNat := dec3 h.toNat (by omega)
  obtain ⟨t1, t2, t3, t4⟩ := dg_tab h.toNat (by omega)
  rw [e]
  refine ⟨t1, t2, ?_, ?_⟩
  · unfold iaW
    rw [t3]
    simp only [Int.toNat_of_nonneg (show 0 ≤ h by omega)]
  · have := read_w (dg3 h.toNat) (by omega) 10 (by omega)
    rw [t4, Int.toNat_of_nonneg (by omega)] at this
    exact (Option.some.inj this).symm
theorem rowI_good : ∀ r : List Int, (∀ h ∈ r, 1 ≤ h ∧ h ≤ 999) → rowI (r.map digL) = some r
  | [], _ => rfl
  | h :: r, hh => by
    have := dig_at h (hh h List.mem_cons_self).1 (hh h List.mem_cons_self).2
    simp only [List.map_cons, rowI, this.2.2.1, rowI_good r (fun x hx => hh x (List.mem_cons_of_mem _ hx))]
theorem row_pcs (r : List Int) (h1 : 1 ≤ r.length) (hh : ∀ h ∈ r, 1 ≤ h ∧ h ≤ 999) : pcs 44 [] (rowL r) = r.map digL := by
  unfold rowL
  refine pcs_join 44 _ (by rw [List.length_map]; exact h1) (fun v hv b hb => ?_)
  obtain ⟨h, hm, rfl⟩ := List.mem_map.1 hv
  exact ((dig_at h (hh h hm).1 (hh h hm).2).2.1 b hb).1
theorem row_clean (r : List Int) (hh : ∀ h ∈ r, 1 ≤ h ∧ h ≤ 999) : ∀ b ∈ rowL r, b ≠ 47 := by
  intro b hb
  unfold rowL at hb
  rcases mem_join 44 _ b hb with rfl | ⟨v, hv, hb⟩
  · decide
  · obtain ⟨h, hm, rfl⟩ := List.mem_map.1 hv
    exact ((dig_at h (hh h hm).1 (hh h hm).2).2.1 b hb).2
theorem outI_good : ∀ g : List (List Int), (∀ r ∈ g, 1 ≤ r.length ∧ ∀ h ∈ r, 1 ≤ h ∧ h ≤ 999) → outI (g.map rowL) = some g
  | [], _ => rfl
  | r :: g, hh => by
    have h0 := hh r List.mem_cons_self
    simp only [List.map_cons, outI, row_pcs r h0.1 h0.2, rowI_good r h0.2, outI_good g (fun x hx => hh x (List.mem_cons_of_mem _ hx))]
theorem good_read (g : List (List Int)) (hg : goodB g = true) : (filL g).length ≤ 300 ∧ (pcs 47 [] (filL g)).map sRow = g ∧ outI (pcs 47 [] (filL g)) = some g := by
  have hF := fi_of g hg
  have hr : ∀ r ∈ g, 1 ≤ r.length ∧ ∀ h ∈ r, 1 ≤ h ∧ h ≤ 999 := fun r hm => ⟨by have := hF.wide r hm; have := hF.cols; omega, hF.high r hm⟩
  have e : pcs 47 [] (filL g) = g.map rowL := by
    unfold filL
    refine pcs_join 47 _ (by rw [List.length_map]; exact hF.rows.1) (fun v hv b hb => ?_)
    obtain ⟨r, hm, rfl⟩ := List.mem_map.1 hv
    exact row_clean r (hr r hm).2 b hb
  refine ⟨?_, ?_, ?_⟩
  · have h1 : ∀ w ∈ g.map rowL, w.length ≤ 32 := by
      intro w hw
      obtain ⟨r, hm, rfl⟩ := List.mem_map.1 hw
      have := join_le 3 [44] rfl (r.map digL) (fun v hv => by
        obtain ⟨h, hm2, rfl⟩ := List.mem_map.1 hv
        exact (dig_at h ((hr r hm).2 h hm2).1 ((hr r hm).2 h hm2).2).1)
      rw [List.length_map] at this
      have := hF.wide r hm
      have := hF.cols
      unfold rowL
      omega
    have := join_le 32 [47] rfl (g.map rowL) h1
    rw [List.length_map] at this
    have := hF.rows
    unfold filL
    omega
  · rw [e, List.map_map]
    refine (List.map_congr_left (fun r hm => ?_)).trans (List.map_id g)
    show sRow (rowL r) = id r
    unfold sRow
    rw [row_pcs r (hr r hm).1 (hr r hm).2, List.map_map]
    exact (List.map_congr_left (fun h hm2 => (dig_at h ((hr r hm).2 h hm2).1 ((hr r hm).2 h hm2).2).2.2.2)).trans (List.map_id r)
  · rw [e]
    exact outI_good g hr
end Go.Proofs.YtohhlkehglahhaaGreatDoor.Pure
