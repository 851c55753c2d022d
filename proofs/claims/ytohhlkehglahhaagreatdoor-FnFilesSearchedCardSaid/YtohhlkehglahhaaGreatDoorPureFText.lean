/- The text of files: the program's and the reference's are one; no Go and no memory here. -/
import Derived.Test.YtohhlkehglahhaaGreatDoorAx19
import Derived.Test.YtohhlkehglahhaaGreatDoorAx20
import Derived.Test.YtohhlkehglahhaaGreatDoorGivK
import Derived.Test.YtohhlkehglahhaaGreatDoorPureFiles
import Derived.Test.YtohhlkehglahhaaGreatDoorPureNum
namespace Go.Proofs.YtohhlkehglahhaaGreatDoor.Pure
open Go.RowKit Go.Proofs.YtohhlkehglahhaaGreatDoor.A Go.Proofs.YtohhlkehglahhaaGreatDoorW.PrintWords Go.Proofs.YtohhlkehglahhaaGreatDoorW.PrintLast Go.Proofs.YtohhlkehglahhaaGreatDoorW.PrintMore
set_option linter.unusedVariables false
set_option linter.unusedSimpArgs false
def B (x : List UInt8) : ByteArray := ⟨x.toArray⟩
theorem B_app (x y : List UInt8) : B x ++ B y = B (x ++ y) := by
  apply ByteArray.ext
  apply Array.toList_inj.1
  rw [ByteArray.data_append, Array.toList_append]
  rfl
theorem B_size (x : List UInt8) : (B x).size = x.length := rfl
theorem B_comma : (⟨#[44]⟩ : ByteArray) = B [44] := rfl
theorem B_slash : (⟨#[47]⟩ : ByteArray) = B [47] := rfl
theorem B_none : (⟨#[]⟩ : ByteArray) = B [] := rfl
def digL (h : Int) : List UInt8 := Lib.decDigits h.toNat
def rowL (r : List Int) : List UInt8 := Lib.join (r.map digL) [44]
def filL (l : List (List Int)) : List UInt8 := Lib.join (l.map rowL) [47]
theorem dig_len (h : Int) (h1 : 1 ≤ h) (h2 : h ≤ 999) : (digL h).length ≤ 1000 := by
  have := dec_len h.toNat
  unfold digL
  omega
theorem tail_le (M : Nat) (sep : List UInt8) (hs : sep.length = 1) : ∀ ws : List (List UInt8), (∀ w ∈ ws, w.length ≤ M) → (Lib.joinTail sep ws).length ≤ (M + 1) * ws.length
  | [], _ => by simp [Lib.joinTail]
  | w :: ws, h => by
    have h1 := tail_le M sep hs ws (fun x hx => h x (List.mem_cons_of_mem _ hx))
    have h2 := h w List.mem_cons_self
    have e : Lib.joinTail sep (w :: ws) = (sep ++ w) ++ Lib.joinTail sep ws := rfl
    rw [e, List.length_append, List.length_append, hs, List.length_cons, Nat.mul_add]
    omega
theorem join_le (M : Nat) (sep : List UInt8) (hs : sep.length = 1) (ws : List (List UInt8)) (h : ∀ w ∈ ws, w.length ≤ M) : (Lib.join ws sep).length ≤ (M + 1) * ws.length := by
  cases ws with
  | nil => simp [Lib.join_nil]
  | cons w ws =>
    have h1 := tail_le M sep hs ws (fun x hx => h x (List.mem_cons_of_mem _ hx))
    have h2 := h w List.mem_cons_self
    rw [Lib.join_cons, List.length_append, List.length_cons, Nat.mul_add]
    omega
theorem num_h (h : Int) (h1 : 1 ≤ h) (h2 : h ≤ 999) (k : Nat) (hk : 1000 < k) : Qc2.f k h = some (B (digL h)) := by
  have := num_at h.toNat k (by omega) (by omega)
  rw [Int.toNat_of_nonneg (by omega)] at this
  exact this
theorem itoa_h (h : Int) (h1 : 1 ≤ h) (h2 : h ≤ 999) : strconv_Itoa.f h = some (B (digL h)) := by
  unfold strconv_Itoa.f
  rw [if_pos ⟨by omega, by omega⟩]
  rfl
theorem join_f (ws : List (List UInt8)) (sep : List UInt8) (h1 : (Lib.join ws sep).length ≤ 100000000) (h2 : ws.length ≤ 100000000) : strings_Join.f (ws.map B) (B sep) = some (B (Lib.join ws sep)) := by
  unfold strings_Join.f
  have e : (ws.map B).map (·.data.toList) = ws := by
    rw [List.map_map]
    have : ((fun x : ByteArray => x.data.toList) ∘ B) = id := by funext x; rfl
    rw [this, List.map_id]
  have e2 : (B sep).data.toList = sep := rfl
  rw [e, e2, if_pos (by rw [List.length_map]; omega)]
  rfl
theorem s_in (L : List (List Int)) (r : List Int) (hr : r.length ≤ 8) (hh : ∀ h ∈ r, 1 ≤ h ∧ h ≤ 999) (n i : Int) (d : Nat) : ∀ (K j : Nat) (x : List UInt8), j + d = r.length → 1 ≤ j → x.length + 1001 * d ≤ 10000000 → 1000 < K →
    Qy.l1 (K + d + 1) (B x) L n i r (r.length : Int) (j : Int) = Qy.l0 K (B (x ++ Lib.joinTail [44] ((r.drop j).map digL))) L n (wrap64 (i + 1)) := by
  induction d with
  | zero =>
    intro K j x h h1 hx hK
    simp only [Qy.l1]
    rw [if_neg (by omega), List.drop_eq_nil_of_le (by omega), List.map_nil]
    have : Lib.joinTail [44] [] = [] := rfl
    rw [this, List.append_nil]
  | succ d ih =>
    intro K j x h h1 hx hK
    obtain ⟨k, hk⟩ : ∃ k, k = K + d + 1 := ⟨_, rfl⟩
    rw [show K + (d + 1) + 1 = k + 1 by omega]
    have hj : j < r.length := by omega
    obtain ⟨a1, a2⟩ := hh r[j] (List.getElem_mem hj)
    have hd := dig_len r[j] a1 a2
    simp only [Qy.l1]
    rw [if_pos (by omega), if_pos (by omega), if_pos (by omega), if_pos (by omega), if_pos (by rw [B_size]; omega), rd_at r j hj, num_h r[j] a1 a2 k (by omega), Option.bind_some, B_comma, B_app, B_app, if_pos (by rw [B_size, B_size, List.length_append]; simp only [List.length_singleton]; omega), w_nat (by omega), hk, ih K (j + 1) _ (by omega) (by omega) (by rw [List.length_append, List.length_append]; simp only [List.length_singleton]; omega) hK, List.drop_eq_getElem_cons hj, List.map_cons]
    have : Lib.joinTail [44] (digL r[j] :: (r.drop (j + 1)).map digL) = ([44] ++ digL r[j]) ++ Lib.joinTail [44] ((r.drop (j + 1)).map digL) := rfl
    rw [this, List.append_assoc, List.append_assoc, List.append_assoc, ← List.append_assoc x]
theorem s_row (L : List (List Int)) (r : List Int) (h1 : 1 ≤ r.length) (hr : r.length ≤ 8) (hh : ∀ h ∈ r, 1 ≤ h ∧ h ≤ 999) (n i : Int) (K : Nat) (x : List UInt8) (hx : x.length ≤ 9000000) (hK : 1000 < K) :
    Qy.l1 (K + r.length + 1) (B x) L n i r (r.length : Int) 0 = Qy.l0 K (B (x ++ rowL r)) L n (wrap64 (i + 1)) := by
  cases r with
  | nil => exact absurd h1 (by simp)
  | cons a r =>
    obtain ⟨a1, a2⟩ := hh a List.mem_cons_self
    have hd := dig_len a a1 a2
    have hl : (a :: r).length = r.length + 1 := rfl
    obtain ⟨k, hk⟩ : ∃ k, k = K + r.length + 1 := ⟨_, rfl⟩
    rw [show K + (a :: r).length + 1 = k + 1 by omega]
    have c1 : wrap64 (0 + 1) = ((1 : Nat) : Int) := by unfold wrap64; omega
    have e0 : rd (a :: r) 0 = a := rfl
    simp only [Qy.l1]
    rw [if_pos (by omega), if_pos (by omega), if_pos (by omega), if_neg (by omega), e0, num_h a a1 a2 k (by omega), Option.bind_some, if_pos (by rw [B_size, B_size]; omega), B_app, c1, hk, s_in L (a :: r) hr hh n i r.length K 1 _ (by omega) (by omega) (by rw [List.length_append]; omega) hK]
    unfold rowL
    rw [List.map_cons, Lib.join_cons, List.append_assoc]
    rfl
theorem row_len (r : List Int) (hr : r.length ≤ 8) (hh : ∀ h ∈ r, 1 ≤ h ∧ h ≤ 999) : (rowL r).length ≤ 10000 := by
  have := join_le 1000 [44] rfl (r.map digL) (fun w hw => by
    obtain ⟨h, hh', rfl⟩ := List.mem_map.1 hw
    exact dig_len h (hh h hh').1 (hh h hh').2)
  rw [List.length_map] at this
  unfold rowL
  omega
theorem s_out (L : List (List Int)) (m : Nat) (hF : Fi L m) (d : Nat) : ∀ (K i : Nat) (x : List UInt8), i + d = L.length → 1 ≤ i → x.length + 10001 * d ≤ 1000000 → 20 * d + 1100 < K →
    Qy.l0 K (B x) L (L.length : Int) (i : Int) = some (B (x ++ Lib.joinTail [47] ((L.drop i).map rowL))) := by
  have hL := hF.rows
  have hm := hF.cols
  induction d with
  | zero =>
    intro K i x h h1 hx hK
    obtain ⟨K, rfl⟩ := fuel1 (show 0 < K by omega)
    simp only [Qy.l0]
    rw [if_neg (by omega), List.drop_eq_nil_of_le (by omega), List.map_nil]
    have : Lib.joinTail [47] [] = [] := rfl
    rw [this, List.append_nil]
  | succ d ih =>
    intro K i x h h1 hx hK
    have hi : i < L.length := by omega
    have hw := hF.wide L[i] (List.getElem_mem hi)
    have hh := hF.high L[i] (List.getElem_mem hi)
    have hrl := row_len L[i] (by omega) hh
    obtain ⟨K0, hK0⟩ : ∃ K0, K = K0 + L[i].length + 1 + 1 + 1 := ⟨K - L[i].length - 3, by omega⟩
    obtain ⟨k, hk⟩ : ∃ k, k = K0 + L[i].length + 1 := ⟨_, rfl⟩
    rw [hK0, ← hk]
    simp only [Qy.l0, Qy.j1]
    rw [if_pos (by omega), if_pos (by omega), if_pos (by omega), if_pos (by omega), if_pos (by rw [B_size]; omega), rl_at L i hi, B_slash, B_app, hk, s_row L L[i] (by omega) (by omega) hh _ _ K0 _ (by rw [List.length_append]; simp only [List.length_singleton]; omega) (by omega), w_nat (by omega), ih K0 (i + 1) _ (by omega) (by omega) (by rw [List.length_append, List.length_append]; simp only [List.length_singleton]; omega) (by omega), List.drop_eq_getElem_cons hi, List.map_cons]
    have : Lib.joinTail [47] (rowL L[i] :: (L.drop (i + 1)).map rowL) = ([47] ++ rowL L[i]) ++ Lib.joinTail [47] ((L.drop (i + 1)).map rowL) := rfl
    rw [this, List.append_assoc, List.append_assoc, List.append_assoc, ← List.append_assoc x]
theorem s_text (L : List (List Int)) (m : Nat) (hF : Fi L m) (k : Nat) (hk : 5000 < k) : Qy.f k L = some (B (filL L)) := by
  have hL := hF.rows
  have hm := hF.cols
  unfold Qy.f
  cases L with
  | nil => exact absurd hL.1 (by simp)
  | cons r L =>
    have hl : (r :: L).length = L.length + 1 := rfl
    have hw := hF.wide r List.mem_cons_self
    have hh := hF.high r List.mem_cons_self
    have hrl := row_len r (by omega) hh
    obtain ⟨K0, hK0⟩ : ∃ K0, k = K0 + r.length + 1 + 1 + 1 := ⟨k - r.length - 3, by omega⟩
    obtain ⟨k', hk'⟩ : ∃ k', k' = K0 + r.length + 1 := ⟨_, rfl⟩
    rw [hK0, ← hk']
    have c1 : wrap64 (0 + 1) = ((1 : Nat) : Int) := by unfold wrap64; omega
    have e0 : rd_L2 (r :: L) 0 = r := rfl
    simp only [Qy.l0, Qy.j1]
    rw [if_pos (by omega), if_pos (by omega), if_pos (by omega), if_neg (by omega), e0, B_none, hk', s_row (r :: L) r (by omega) (by omega) hh _ _ K0 _ (by simp) (by omega), c1, List.nil_append, s_out (r :: L) m hF L.length K0 1 _ (by omega) (by omega) (by omega) (by omega)]
    unfold filL
    rw [List.map_cons, Lib.join_cons]
    rfl
theorem i_in (L : List (List Int)) (r : List Int) (hr : r.length ≤ 8) (hh : ∀ h ∈ r, 1 ≤ h ∧ h ≤ 999) (n i : Int) (ws : List ByteArray) (hws : ws.length ≤ 100) (d : Nat) : ∀ (K j : Nat) (us : List (List UInt8)), j + d = r.length → us = (r.take j).map digL →
    Qw.l1 (K + d + 1) ws (us.map B) L n i r (r.length : Int) (j : Int) = Qw.l0 K (ws ++ [B (rowL r)]) L n (wrap64 (i + 1)) := by
  induction d with
  | zero =>
    intro K j us h hu
    have e : us = r.map digL := by rw [hu, List.take_of_length_le (by omega)]
    have hl := row_len r hr hh
    simp only [Qw.l1]
    rw [if_neg (by omega), B_comma, join_f us [44] (by rw [e]; unfold rowL at hl; omega) (by rw [e, List.length_map]; omega), Option.bind_some, if_pos (by omega), e]
    rfl
  | succ d ih =>
    intro K j us h hu
    obtain ⟨k, hk⟩ : ∃ k, k = K + d + 1 := ⟨_, rfl⟩
    rw [show K + (d + 1) + 1 = k + 1 by omega]
    have hj : j < r.length := by omega
    obtain ⟨a1, a2⟩ := hh r[j] (List.getElem_mem hj)
    have hul : us.length ≤ 8 := by rw [hu, List.length_map, List.length_take]; omega
    simp only [Qw.l1]
    rw [if_pos (by omega), if_pos (by omega), if_pos (by omega), rd_at r j hj, itoa_h r[j] a1 a2, Option.bind_some, if_pos (by rw [List.length_map]; omega), w_nat (by omega), hk]
    have := ih K (j + 1) (us ++ [digL r[j]]) (by omega) (by rw [hu, List.take_succ_eq_append_getElem hj, List.map_append]; rfl)
    rw [List.map_append] at this
    exact this
theorem i_out (L : List (List Int)) (m : Nat) (hF : Fi L m) (d : Nat) : ∀ (K i : Nat) (ws : List (List UInt8)), i + d = L.length → ws = (L.take i).map rowL → 20 * d < K →
    Qw.l0 K (ws.map B) L (L.length : Int) (i : Int) = some (B (filL L)) := by
  have hL := hF.rows
  have hm := hF.cols
  induction d with
  | zero =>
    intro K i ws h hw hK
    obtain ⟨K, rfl⟩ := fuel1 (show 0 < K by omega)
    have e : ws = L.map rowL := by rw [hw, List.take_of_length_le (by omega)]
    have hfl : (filL L).length ≤ 100000 := by
      have := join_le 10000 [47] rfl (L.map rowL) (fun w hw => by
        obtain ⟨r, hr, rfl⟩ := List.mem_map.1 hw
        exact row_len r (by rw [hF.wide r hr]; omega) (hF.high r hr))
      rw [List.length_map] at this
      unfold filL
      omega
    simp only [Qw.l0]
    rw [if_neg (by omega), B_slash, join_f ws [47] (by rw [e]; unfold filL at hfl; omega) (by rw [e, List.length_map]; omega), Option.bind_some, e]
    rfl
  | succ d ih =>
    intro K i ws h hw hK
    have hi : i < L.length := by omega
    have hwi := hF.wide L[i] (List.getElem_mem hi)
    have hh := hF.high L[i] (List.getElem_mem hi)
    obtain ⟨K0, hK0⟩ : ∃ K0, K = K0 + L[i].length + 1 + 1 := ⟨K - L[i].length - 2, by omega⟩
    obtain ⟨k, hk⟩ : ∃ k, k = K0 + L[i].length + 1 := ⟨_, rfl⟩
    have hwl : ws.length ≤ 8 := by rw [hw, List.length_map, List.length_take]; omega
    rw [hK0, ← hk]
    have c0 : ((0 : Nat) : Int) = 0 := rfl
    have := i_in L L[i] (by omega) hh (L.length : Int) (i : Int) (ws.map B) (by rw [List.length_map]; omega) L[i].length K0 0 [] (by omega) (by simp)
    rw [c0, List.map_nil, ← hk] at this
    simp only [Qw.l0]
    rw [if_pos (by omega), if_pos (by omega), if_pos (by omega), rl_at L i hi, this, w_nat (by omega)]
    have h2 := ih K0 (i + 1) (ws ++ [rowL L[i]]) (by omega) (by rw [hw, List.take_succ_eq_append_getElem hi, List.map_append]; rfl) (by omega)
    rw [List.map_append] at h2
    exact h2
theorem i_text (L : List (List Int)) (m : Nat) (hF : Fi L m) (k : Nat) (hk : 5000 < k) : Qw.f k L = some (B (filL L)) := by
  have hL := hF.rows
  unfold Qw.f
  exact i_out L m hF L.length k 0 [] (by omega) (by simp) (by omega)
end Go.Proofs.YtohhlkehglahhaaGreatDoor.Pure
