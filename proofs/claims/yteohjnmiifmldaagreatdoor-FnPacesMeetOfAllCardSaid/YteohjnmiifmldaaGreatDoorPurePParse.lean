/- A text of paces read back: what the program's and the reference's readings come to; no Go and no memory here. -/
import Derived.Test.YteohjnmiifmldaaGreatDoorAx10
import Derived.Test.YteohjnmiifmldaaGreatDoorAx15
import Derived.Test.YteohjnmiifmldaaGreatDoorGivA
import Derived.Test.YteohjnmiifmldaaGreatDoorGivJ
import Derived.Test.YteohjnmiifmldaaGreatDoorGivL
import Derived.Test.YteohjnmiifmldaaGreatDoorGivQ
import Derived.Test.YteohjnmiifmldaaGreatDoorPureNum
import Derived.Test.YteohjnmiifmldaaGreatDoorPurePaces
namespace Go.Proofs.YteohjnmiifmldaaGreatDoor.Pure
open Go.RowKit Go.Proofs.YteohjnmiifmldaaGreatDoor.A Go.Proofs.YteohjnmiifmldaaGreatDoorW.PrintWords Go.Proofs.YteohjnmiifmldaaGreatDoorW.PrintLast Go.Proofs.YteohjnmiifmldaaGreatDoorW.PrintMore
set_option linter.unusedVariables false
set_option linter.unusedSimpArgs false

/-- The pieces of a list of bytes between the bytes c; cur: what stands ahead. -/
def pcs (c : UInt8) : List UInt8 → List UInt8 → List (List UInt8)
  | cur, [] => [cur]
  | cur, b :: l => if b = c then cur :: pcs c [] l else pcs c (cur ++ [b]) l
theorem pcs_len (c : UInt8) : ∀ (s cur : List UInt8), (pcs c cur s).length ≤ s.length + 1
  | [], cur => by simp [pcs]
  | b :: l, cur => by
    have h1 := pcs_len c l []
    have h2 := pcs_len c l (cur ++ [b])
    unfold pcs
    split
    · simp only [List.length_cons]; omega
    · simp only [List.length_cons]; omega
theorem pcs_mem (c : UInt8) : ∀ (s cur : List UInt8), ∀ w ∈ pcs c cur s, w.length ≤ cur.length + s.length
  | [], cur, w, hw => by
    simp only [pcs, List.mem_singleton] at hw
    subst hw
    simp
  | b :: l, cur, w, hw => by
    unfold pcs at hw
    split at hw
    · rcases List.mem_cons.1 hw with rfl | h
      · simp
      · have := pcs_mem c l [] w h
        simp only [List.length_nil, List.length_cons] at this ⊢
        omega
    · have := pcs_mem c l (cur ++ [b]) w hw
      simp only [List.length_append, List.length_cons, List.length_nil] at this ⊢
      omega
theorem split_pcs (c : UInt8) : ∀ (s cur : List UInt8), ∃ p ps, Lib.splitK [c] 0 (Lib.count s [c]) s = p :: ps ∧ pcs c cur s = (cur ++ p) :: ps
  | [], cur => ⟨[], [], by rw [Lib.count_one]; rfl, by simp [pcs]⟩
  | b :: l, cur => by
    by_cases h : b = c
    · subst h
      obtain ⟨p, ps, h1, h2⟩ := split_pcs b l []
      refine ⟨[], p :: ps, ?_, ?_⟩
      · have hi : Lib.index (b :: l) [b] = 0 := by simp [Lib.index]
        rw [Lib.count_cons_eq, Nat.add_comm 1, Lib.splitK, hi, if_neg (by decide)]
        simp [h1]
      · simp [pcs, h2]
    · obtain ⟨p, ps, h1, h2⟩ := split_pcs c l (cur ++ [b])
      rw [Lib.count_cons_ne b c l h]
      cases e : Lib.count l [c] with
      | zero =>
        rw [e] at h1
        obtain ⟨rfl, rfl⟩ := List.cons.inj (h1 : l :: [] = p :: ps)
        exact ⟨b :: l, [], rfl, by simp [pcs, h, h2]⟩
      | succ n =>
        rw [e] at h1
        have hne : Lib.index l [c] ≠ -1 := fun hi => by have := Lib.count_miss hi; omega
        have hge := Lib.index_ge l [c]
        have hi : Lib.index (b :: l) [c] = Lib.index l [c] + 1 := by
          rw [Lib.index, if_neg (by simp [List.isPrefixOf]; exact fun e => h e.symm), if_neg (by simpa using hne)]
        rw [Lib.splitK, if_neg (by simpa using hne)] at h1
        obtain ⟨rfl, rfl⟩ := List.cons.inj h1
        refine ⟨b :: l.take ((Lib.index l [c]).toNat + 0), Lib.splitK [c] 0 n (l.drop ((Lib.index l [c]).toNat + [c].length)), ?_, ?_⟩
        · rw [Lib.splitK, hi, if_neg (by simp; omega), show (Lib.index l [c] + 1).toNat = (Lib.index l [c]).toNat + 1 by omega]
          rfl
        · simp only [pcs, if_neg h, h2]
          simp
theorem B_data (x : ByteArray) : B x.data.toList = x := by cases x; simp [B]
theorem gosplit (c : UInt8) (s : List UInt8) (h : s.length < 4294967281) : strings_Split.f (B s) (B [c]) = some ((pcs c [] s).map B) := by
  unfold strings_Split.f
  rw [if_pos ⟨rfl, h⟩]
  congr 1
  obtain ⟨p, ps, h1, h2⟩ := split_pcs c s []
  have e := Lib.splitB_data (B [c]) 0 (Lib.countB (B s) (B [c])) (B s)
  have e2 : Lib.splitK (B [c]).data.toList 0 (Lib.countB (B s) (B [c])) (B s).data.toList = pcs c [] s := by
    rw [h2]
    exact h1
  rw [e2] at e
  rw [← e, List.map_map]
  have : (B ∘ fun x : ByteArray => x.data.toList) = id := by funext x; exact B_data x
  rw [this, List.map_id]
theorem rdOf_B (ws : List (List UInt8)) (j : Nat) (h : j < ws.length) : rdOf ByteArray.empty (ws.map B) (j : Int) = B ws[j] := by
  unfold rdOf
  rw [Int.toNat_natCast, List.getD_eq_getElem?_getD, List.getElem?_map, List.getElem?_eq_getElem h]
  rfl

def iaW (w : List UInt8) : Option Int := match Lib.atoiAll w with
  | .ok v => some v
  | _ => none
theorem ia_f (w : List UInt8) (hw : w.length ≤ 1048576) : ∃ p : Int × Option Int, strconv_Atoi.f (B w) = some p ∧ (iaW w = if p.2.isNone = true then some p.1 else none) := by
  unfold strconv_Atoi.f iaW
  rw [if_pos (show (B w).size ≤ 281474976710656 by rw [B_size]; omega)]
  show ∃ p : Int × Option Int, (match Lib.atoiAll w with
  | .ok v => some (v, none)
  | .«syntax» => some (0, some 0)
  | .range => some (Lib.atoiSat w, some 1)) = some p ∧ _
  cases Lib.atoiAll w with
  | ok v => exact ⟨_, rfl, rfl⟩
  | «syntax» => exact ⟨_, rfl, rfl⟩
  | range => exact ⟨_, rfl, rfl⟩
theorem pcs_app (c : UInt8) : ∀ (w cur rest : List UInt8), (∀ b ∈ w, b ≠ c) → pcs c cur (w ++ rest) = pcs c (cur ++ w) rest
  | [], cur, rest, _ => by simp
  | b :: w, cur, rest, h => by
    rw [List.cons_append]
    simp only [pcs]
    rw [if_neg (h b List.mem_cons_self), pcs_app c w (cur ++ [b]) rest (fun x hx => h x (List.mem_cons_of_mem _ hx)), List.append_assoc, List.singleton_append]
theorem pcs_tail (c : UInt8) : ∀ (ws : List (List UInt8)) (w cur : List UInt8), (∀ b ∈ w, b ≠ c) → (∀ v ∈ ws, ∀ b ∈ v, b ≠ c) → pcs c cur (w ++ Lib.joinTail [c] ws) = (cur ++ w) :: ws
  | [], w, cur, h, _ => by
    rw [pcs_app c w cur _ h]
    simp [Lib.joinTail, pcs]
  | v :: vs, w, cur, h, hv => by
    have e : Lib.joinTail [c] (v :: vs) = c :: (v ++ Lib.joinTail [c] vs) := by simp [Lib.joinTail]
    rw [pcs_app c w cur _ h, e]
    simp only [pcs]
    rw [if_pos trivial, pcs_tail c vs v [] (hv v List.mem_cons_self) (fun x hx => hv x (List.mem_cons_of_mem _ hx)), List.nil_append]
theorem pcs_join (c : UInt8) (ws : List (List UInt8)) (hne : 1 ≤ ws.length) (h : ∀ v ∈ ws, ∀ b ∈ v, b ≠ c) : pcs c [] (Lib.join ws [c]) = ws := by
  cases ws with
  | nil => simp at hne
  | cons w ws =>
    rw [Lib.join_cons, pcs_tail c ws w [] (h w List.mem_cons_self) (fun x hx => h x (List.mem_cons_of_mem _ hx)), List.nil_append]
def dg3 (n : Nat) : List UInt8 := if n < 10 then [UInt8.ofNat (48 + n)] else if n < 100 then [UInt8.ofNat (48 + n / 10), UInt8.ofNat (48 + n % 10)] else [UInt8.ofNat (48 + n / 10 / 10), UInt8.ofNat (48 + n / 10 % 10), UInt8.ofNat (48 + n % 10)]
theorem dec3 (n : Nat) (h : n < 1000) : Lib.decDigits n = dg3 n := by
  unfold dg3
  by_cases h1 : n < 10
  · rw [if_pos h1, Lib.decDigits_one h1]
  by_cases h2 : n < 100
  · rw [if_neg h1, if_pos h2, Lib.decDigits_two h1 h2]
  rw [if_neg h1, if_neg h2, Lib.decDigits, dif_neg h1, Lib.decDigits_two (show ¬ n / 10 < 10 by omega) (by omega)]
  rfl
def rdP : Int → List UInt8 → Int
  | x, [] => x
  | x, b :: l => if (b.toNat : Int) < 48 then -1 else if (b.toNat : Int) > 57 then -1 else rdP (wrap64 ((wrap64 (10 * x)) + (((b.toNat : Int) - 48) % 256))) l
/-- The reference's number of a word. -/
def rdV : List UInt8 → Int
  | [] => -1
  | b :: l => if 6 ≤ l.length then -1 else if b = 48 ∧ 1 ≤ l.length then -1 else rdP 0 (b :: l)
set_option maxRecDepth 100000 in
theorem dg_tab : ∀ n < 100, (dg3 n).length ≤ 2 ∧ (∀ b ∈ dg3 n, b ≠ 43 ∧ b ≠ 44) ∧ Lib.atoiAll (dg3 n) = .ok (n : Int) ∧ rdV (dg3 n) = (n : Int) := by decide +kernel
theorem dig_at (h : Int) (h1 : 0 ≤ h) (h2 : h ≤ 60) : (Lib.decDigits h.toNat).length ≤ 2 ∧ (∀ b ∈ Lib.decDigits h.toNat, b ≠ 43 ∧ b ≠ 44) ∧ iaW (Lib.decDigits h.toNat) = some h ∧ rdV (Lib.decDigits h.toNat) = h := by
  obtain ⟨t1, t2, t3, t4⟩ := dg_tab h.toNat (by omega)
  rw [dec3 h.toNat (by omega)]
  refine ⟨t1, t2, ?_, by rw [t4]; omega⟩
  unfold iaW
  rw [t3]
  simp only [Int.toNat_of_nonneg h1]
def sPair (w : List UInt8) : Option S38 := match pcs 43 [] w with
  | [a, b] => some ⟨rdV a, rdV b⟩
  | _ => none
def sAll : List (List UInt8) → Option (List S38)
  | [] => some []
  | w :: ws => match sPair w with
    | none => none
    | some p => match sAll ws with
      | none => none
      | some ps => some (p :: ps)
def iPair (w : List UInt8) : Option S38 := match iaW (Lib.cut w [43]).1 with
  | none => none
  | some a => match iaW (Lib.cut w [43]).2.1 with
    | none => none
    | some b => some ⟨a, b⟩
def iAll : List (List UInt8) → Option (List S38)
  | [] => some []
  | w :: ws => match iPair w with
    | none => none
    | some p => match iAll ws with
      | none => none
      | some ps => some (p :: ps)
def txt : List S38 → List UInt8
  | [] => []
  | p :: l => wordL p ++ tailL l
theorem txt_join (g : List S38) : txt g = Lib.join (g.map wordL) [44] := by
  cases g with
  | nil => rfl
  | cons p l =>
    rw [List.map_cons, Lib.join_cons]
    unfold txt tailL Lib.joinTail
    rw [List.map_map]
    rfl
def endI (x0 : ByteArray) (o : List S38) : List S38 × Bool := if goodP o = true ∧ (B (txt o)).toList = x0.toList then (o, true) else ([], false)
theorem good_len (o : List S38) (h : goodP o = true) : 1 ≤ o.length ∧ o.length ≤ 6 ∧ ∀ p ∈ o, 1 ≤ p.f0 ∧ p.f0 ≤ 60 ∧ 0 ≤ p.f1 ∧ p.f1 ≤ p.f0 - 1 := by
  unfold goodP at h
  rw [Bool.and_eq_true] at h
  obtain ⟨h1, h2⟩ := h
  have := of_decide_eq_true h1
  refine ⟨by omega, by omega, fun p hp => ?_⟩
  have := List.all_eq_true.1 h2 p hp
  unfold goodQ at this
  simp only [Bool.and_eq_true, decide_eq_true_eq] at this
  omega
theorem cut_len (w : List UInt8) : (Lib.cut w [43]).1.length ≤ w.length ∧ (Lib.cut w [43]).2.1.length ≤ w.length := by
  unfold Lib.cut
  split
  · simp only [List.length_take, List.length_drop]; omega
  · simp
theorem i_lines (x0 : ByteArray) (ls : List (List UInt8)) (hl : ls.length ≤ 1048577) (hw : ∀ l ∈ ls, l.length ≤ 1048576) (d : Nat) : ∀ (k i : Nat) (x4 : List S38), i + d = ls.length → x4.length + d ≤ 2000000 → d + 3000 < k →
    impl_ParsePaces.l0 k x0 x4 (ls.map B) ((ls.map B).length : Int) (i : Int) = match iAll (ls.drop i) with
      | none => some ([], false)
      | some o => some (endI x0 (x4 ++ o)) := by
  induction d with
  | zero =>
    intro k i x4 h h4 hk
    obtain ⟨k, rfl⟩ := fuel0 (show 0 < k by omega)
    simp only [impl_ParsePaces.l0]
    rw [if_neg (by rw [List.length_map]; omega), List.drop_of_length_le (show ls.length ≤ i by omega), agood_ok x4 k (by omega), Option.bind_some]
    simp only [iAll, List.append_nil]
    unfold endI
    by_cases hg : goodP x4 = true
    · have hG := good_len x4 hg
      have ht : impl_pacesText.f k x4 = some (B (txt x4)) := by
        cases x4 with
        | nil => simp at hG
        | cons p l =>
          unfold goodP at hg
          rw [Bool.and_eq_true] at hg
          exact itext_ok p l hG.2.1 hg.2 k (by omega)
      rw [if_pos hg, ht, Option.bind_some]
      by_cases ht : (B (txt x4)).toList = x0.toList
      · rw [if_pos ht, if_pos ⟨hg, ht⟩]
      · rw [if_neg ht, if_neg (fun e => ht e.2)]
    · rw [if_neg hg, if_neg (fun e => hg e.1)]
  | succ d ih =>
    intro k i x4 h h4 hk
    obtain ⟨k, rfl⟩ := fuel0 (show 0 < k by omega)
    have hi : i < ls.length := by omega
    have hl1 := hw _ (List.getElem_mem hi)
    have hc := cut_len ls[i]
    obtain ⟨p, hp, hp2⟩ := ia_f (Lib.cut ls[i] [43]).1 (by omega)
    obtain ⟨q, hq, hq2⟩ := ia_f (Lib.cut ls[i] [43]).2.1 (by omega)
    have hcut : strings_Cut.f (B ls[i]) (⟨#[43]⟩ : ByteArray) = some (B (Lib.cut ls[i] [43]).1, B (Lib.cut ls[i] [43]).2.1, (Lib.cut ls[i] [43]).2.2) := by
      unfold strings_Cut.f
      rw [if_pos (by rw [B_size]; omega)]
      rfl
    simp only [impl_ParsePaces.l0]
    rw [if_pos (by rw [List.length_map]; omega), if_pos (by omega), if_pos (by rw [List.length_map]; omega), rdOf_B ls i hi, hcut, Option.bind_some, hp, Option.bind_some, hq, Option.bind_some, List.drop_eq_getElem_cons hi]
    simp only [iAll, iPair, hp2, hq2]
    by_cases n1 : p.2.isNone = true
    · rw [if_pos n1, if_pos n1]
      by_cases n2 : q.2.isNone = true
      · rw [if_pos n2, if_pos n2, if_pos (by omega), w_up (by omega), ih k (i + 1) _ (by omega) (by rw [List.length_append, List.length_singleton]; omega) (by omega)]
        cases iAll (ls.drop (i + 1)) with
        | none => rfl
        | some o => simp only [List.append_assoc, List.singleton_append]
      · rw [if_neg n2, if_neg n2]
    · rw [if_neg n1, if_neg n1]
theorem index_app (c : UInt8) : ∀ (w r : List UInt8), (∀ b ∈ w, b ≠ c) → Lib.index (w ++ c :: r) [c] = w.length
  | [], r, _ => by simp [Lib.index]
  | b :: w, r, h => by
    have ih := index_app c w r (fun x hx => h x (List.mem_cons_of_mem _ hx))
    have hb : b ≠ c := h b List.mem_cons_self
    rw [List.cons_append, Lib.index, if_neg (by simp [List.isPrefixOf]; exact fun e => hb e.symm), ih, if_neg (by first | (simp; done) | (simp; omega))]
    simp
theorem word_read (p : S38) (h : 1 ≤ p.f0 ∧ p.f0 ≤ 60 ∧ 0 ≤ p.f1 ∧ p.f1 ≤ p.f0 - 1) : sPair (wordL p) = some p ∧ iPair (wordL p) = some p ∧ (wordL p).length ≤ 5 ∧ ∀ b ∈ wordL p, b ≠ 44 := by
  obtain ⟨a1, a2, a3, a4⟩ := dig_at p.f0 (by omega) (by omega)
  obtain ⟨b1, b2, b3, b4⟩ := dig_at p.f1 (by omega) (by omega)
  have e : wordL p = Lib.decDigits p.f0.toNat ++ 43 :: Lib.decDigits p.f1.toNat := by unfold wordL; rw [List.append_assoc]; rfl
  have hs : pcs 43 [] (wordL p) = [Lib.decDigits p.f0.toNat, Lib.decDigits p.f1.toNat] := by
    have := pcs_join 43 [Lib.decDigits p.f0.toNat, Lib.decDigits p.f1.toNat] (by simp) (fun v hv b hb => by
      rcases List.mem_cons.1 hv with rfl | hv
      · exact (a2 b hb).1
      · rcases List.mem_cons.1 hv with rfl | hv
        · exact (b2 b hb).1
        · cases hv)
    rw [Lib.join_cons] at this
    rw [e]
    simpa [Lib.joinTail] using this
  have hi : Lib.index (wordL p) [43] = ((Lib.decDigits p.f0.toNat).length : Nat) := by
    rw [e]
    exact index_app 43 _ _ (fun b hb => (a2 b hb).1)
  have hc : Lib.cut (wordL p) [43] = (Lib.decDigits p.f0.toNat, Lib.decDigits p.f1.toNat, true) := by
    unfold Lib.cut
    rw [hi, if_pos (by omega), Int.toNat_natCast, e]
    simp
  refine ⟨?_, ?_, ?_, ?_⟩
  · simp only [sPair, hs, a4, b4]
  · simp only [iPair, hc, a3, b3]
  · rw [e, List.length_append, List.length_cons]; omega
  · intro b hb
    rw [e] at hb
    rcases List.mem_append.1 hb with h | h
    · exact (a2 b h).2
    · rcases List.mem_cons.1 h with rfl | h
      · decide
      · exact (b2 b h).2
theorem all_read : ∀ g : List S38, (∀ p ∈ g, 1 ≤ p.f0 ∧ p.f0 ≤ 60 ∧ 0 ≤ p.f1 ∧ p.f1 ≤ p.f0 - 1) → sAll (g.map wordL) = some g ∧ iAll (g.map wordL) = some g
  | [], _ => ⟨rfl, rfl⟩
  | p :: g, h => by
    obtain ⟨h1, h2, _, _⟩ := word_read p (h p List.mem_cons_self)
    obtain ⟨h3, h4⟩ := all_read g (fun q hq => h q (List.mem_cons_of_mem _ hq))
    refine ⟨?_, ?_⟩
    · simp only [List.map_cons, sAll, h1, h3]
    · simp only [List.map_cons, iAll, h2, h4]
theorem tail_le5 : ∀ g : List S38, (∀ p ∈ g, (wordL p).length ≤ 5) → (tailL g).length ≤ 6 * g.length
  | [], _ => by simp [tailL]
  | p :: g, h => by
    have h1 := h p List.mem_cons_self
    have h2 := tail_le5 g (fun q hq => h q (List.mem_cons_of_mem _ hq))
    have e : tailL (p :: g) = ([44] ++ wordL p) ++ tailL g := rfl
    rw [e, List.length_append, List.length_append, List.length_cons, List.length_cons, List.length_nil]
    omega
theorem good_read (g : List S38) (hg : goodP g = true) : (txt g).length ≤ 40 ∧ sAll (pcs 44 [] (txt g)) = some g ∧ iAll (pcs 44 [] (txt g)) = some g := by
  obtain ⟨g1, g2, g3⟩ := good_len g hg
  have e : pcs 44 [] (txt g) = g.map wordL := by
    rw [txt_join]
    refine pcs_join 44 _ (by rw [List.length_map]; exact g1) (fun v hv b hb => ?_)
    obtain ⟨p, hp, rfl⟩ := List.mem_map.1 hv
    exact (word_read p (g3 p hp)).2.2.2 b hb
  rw [e]
  refine ⟨?_, all_read g g3⟩
  cases g with
  | nil => simp at g1
  | cons p l =>
    have h1 := (word_read p (g3 p List.mem_cons_self)).2.2.1
    have h2 := tail_le5 l (fun q hq => (word_read q (g3 q (List.mem_cons_of_mem _ hq))).2.2.1)
    simp only [txt, List.length_append, List.length_cons] at g2 ⊢
    omega
end Go.Proofs.YteohjnmiifmldaaGreatDoor.Pure
