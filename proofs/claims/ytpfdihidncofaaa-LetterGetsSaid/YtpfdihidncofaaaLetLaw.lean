/- Plain law: a letter's bytes are read as it; what is read has these bytes. -/
import Derived.Test.YtpfdihidncofaaaLetS
import Derived.Test.YtpfdihidncofaaaBackLaw
namespace Go.Proofs.Ytpfdihidncofaaa
open Go.RowKit

theorem heads_split (l : List Int) (k : Nat) (hk : k < l.length) : l.flatMap numL = (l.take k).flatMap numL ++ numL l[k] ++ (l.drop (k + 1)).flatMap numL := by
  have h : l = l.take k ++ l[k] :: l.drop (k + 1) := by rw [← List.drop_eq_getElem_cons hk, List.take_append_drop]
  conv => lhs; rw [h]
  rw [List.flatMap_append, List.flatMap_cons, List.append_assoc]
theorem stN_put (bs : List UInt8) (l : List Int) (tail : List UInt8) (hbs : bs = l.flatMap numL ++ tail) (hl : ∀ n ∈ l, I64 n) : ∀ k, k ≤ l.length → stN bs k = ⟨((l.take k).flatMap numL).length, 0⟩ ∧ ∀ (h : k < l.length), vN bs k = l[k]
  | 0, _ => by
    refine ⟨by simp [stN], fun h => ?_⟩
    have hs := heads_split l 0 h
    obtain ⟨h0, h1⟩ := hl _ (List.getElem_mem h)
    have := rNum_put [] ((l.drop 1).flatMap numL ++ tail) l[0] h0 h1
    have e : bs = [] ++ numL l[0] ++ ((l.drop 1).flatMap numL ++ tail) := by rw [hbs, hs]; simp
    rw [vN, stN, e]
    simp only [List.length_nil] at this
    rw [this]
  | k + 1, hk => by
    obtain ⟨i1, i2⟩ := stN_put bs l tail hbs hl k (by omega)
    have hk' : k < l.length := hk
    have step : ∀ j (hj : j < l.length), rNum bs ⟨((l.take j).flatMap numL).length, 0⟩ = (l[j], ⟨((l.take j).flatMap numL).length + (numL l[j]).length, 0⟩) := fun j hj => by
      obtain ⟨h0, h1⟩ := hl _ (List.getElem_mem hj)
      have h := rNum_put ((l.take j).flatMap numL) ((l.drop (j + 1)).flatMap numL ++ tail) l[j] h0 h1
      have e : bs = (l.take j).flatMap numL ++ numL l[j] ++ ((l.drop (j + 1)).flatMap numL ++ tail) := by rw [hbs, heads_split l j hj]; simp [List.append_assoc]
      rw [e]
      exact h
    have hs : stN bs (k + 1) = ⟨((l.take (k + 1)).flatMap numL).length, 0⟩ := by
      rw [stN, i1, step k hk', List.take_succ_eq_append_getElem hk', List.flatMap_append, List.length_append]
      simp only [List.flatMap_cons, List.flatMap_nil, List.append_nil]
    refine ⟨hs, fun h => ?_⟩
    rw [vN, hs, step (k + 1) h]
theorem bytes_back (s : ByteArray) : (⟨(bytesOf s).toArray⟩ : ByteArray) = s := by
  cases s
  simp [bytesOf]
theorem entR_put (pre post : List UInt8) (x : Ent) (h1 : I64 x.term) (h2 : I64 x.members) (h3 : x.data.size ≤ 1100) : entR (pre ++ entL x ++ post) ⟨pre.length, 0⟩ = (x, ⟨pre.length + (entL x).length, 0⟩) := by
  have a1 := rNum_put pre (numL x.members ++ textL x.data ++ post) x.term h1.1 h1.2
  have a2 := rNum_put (pre ++ numL x.term) (textL x.data ++ post) x.members h2.1 h2.2
  have a3 := rText_put (pre ++ numL x.term ++ numL x.members) post x.data 1100 (by omega) (by omega)
  have e1 : pre ++ entL x ++ post = pre ++ numL x.term ++ (numL x.members ++ textL x.data ++ post) := by simp [entL, List.append_assoc]
  have e2 : pre ++ entL x ++ post = pre ++ numL x.term ++ numL x.members ++ (textL x.data ++ post) := by simp [entL, List.append_assoc]
  have e3 : pre ++ entL x ++ post = pre ++ numL x.term ++ numL x.members ++ textL x.data ++ post := by simp [entL, List.append_assoc]
  rw [← e1] at a1
  rw [← e2] at a2
  rw [← e3] at a3
  have l1 : (pre ++ numL x.term).length = pre.length + (numL x.term).length := List.length_append
  have l2 : (pre ++ numL x.term ++ numL x.members).length = pre.length + (numL x.term).length + (numL x.members).length := by simp; omega
  rw [l1] at a2
  rw [l2] at a3
  have l3 : (pre ++ numL x.term).length + (numL x.members).length = pre.length + (numL x.term).length + (numL x.members).length := by simp
  unfold entR
  rw [a1]
  simp only []
  rw [a2]
  simp only []
  rw [a3]
  simp only [bytes_back]
  congr 2
  simp [entL]
  omega
theorem ents_put (pre : List UInt8) (bs : List UInt8) (es : List Ent) (hbs : bs = pre ++ es.flatMap entL) (hes : ∀ x ∈ es, I64 x.term ∧ I64 x.members ∧ x.data.size ≤ 1100) : ∀ k, k ≤ es.length → entSt bs ⟨pre.length, 0⟩ k = ⟨(pre ++ (es.take k).flatMap entL).length, 0⟩ ∧ entsAt bs ⟨pre.length, 0⟩ k = es.take k
  | 0, _ => by simp [entSt, entsAt]
  | k + 1, hk => by
    obtain ⟨i1, i2⟩ := ents_put pre bs es hbs hes k (by omega)
    have hk' : k < es.length := hk
    obtain ⟨h1, h2, h3⟩ := hes _ (List.getElem_mem hk')
    have h := entR_put (pre ++ (es.take k).flatMap entL) ((es.drop (k + 1)).flatMap entL) es[k] h1 h2 h3
    have e : bs = pre ++ (es.take k).flatMap entL ++ entL es[k] ++ (es.drop (k + 1)).flatMap entL := by
      have h : es = es.take k ++ es[k] :: es.drop (k + 1) := by rw [← List.drop_eq_getElem_cons hk', List.take_append_drop]
      rw [hbs]
      conv => lhs; rw [h]
      rw [List.flatMap_append, List.flatMap_cons, List.append_assoc, List.append_assoc]
    rw [← e] at h
    refine ⟨?_, ?_⟩
    · rw [entSt, i1, h, List.take_succ_eq_append_getElem hk', List.flatMap_append, ← List.append_assoc, List.length_append (bs := List.flatMap entL [es[k]])]
      simp only [List.flatMap_cons, List.flatMap_nil, List.append_nil]
    · rw [entsAt_succ, i2, i1, h, List.take_succ_eq_append_getElem hk']
theorem ents_ge : ∀ es : List Ent, es.length ≤ (es.flatMap entL).length
  | [] => by simp
  | x :: es => by
    have h1 := (numL_len x.term).1
    have h2 := ents_ge es
    rw [List.flatMap_cons, List.length_append, List.length_cons, entL, List.length_append, List.length_append]
    omega
/-- A right letter comes back from its bytes. -/
theorem back_is {m : Lt} {es : List Ent} (h : RightP m es) : GetIs (ltL m es) m es 0 := by
  obtain ⟨hs, h8, hd, he⟩ := right_small h
  obtain ⟨bs, hbs⟩ : ∃ bs, ltL m es = bs := ⟨_, rfl⟩
  have hb1 : bs = (headL m).flatMap numL ++ (numL (if m.yes then 1 else 0) ++ textL m.data ++ numL es.length ++ es.flatMap entL) := by
    rw [← hbs, ltL, startL]; simp [List.append_assoc]
  have hS := fun k hk => stN_put bs (headL m) _ hb1 hs.head k hk
  have s10 : stN bs 10 = ⟨((headL m).flatMap numL).length, 0⟩ := by
    have := (hS 10 (by simp [headL])).1
    rwa [List.take_of_length_le (by simp [headL])] at this
  have hf := rFlag_put ((headL m).flatMap numL) (textL m.data ++ numL es.length ++ es.flatMap entL) m.yes
  have ef : (headL m).flatMap numL ++ numL (if m.yes then 1 else 0) ++ (textL m.data ++ numL es.length ++ es.flatMap entL) = bs := by rw [hb1]; simp [List.append_assoc]
  rw [ef, ← s10] at hf
  have hf' : flR bs = (m.yes, ⟨((headL m).flatMap numL ++ numL (if m.yes then 1 else 0)).length, 0⟩) := by
    rw [flR, hf, List.length_append]
  have ht := rText_put ((headL m).flatMap numL ++ numL (if m.yes then 1 else 0)) (numL es.length ++ es.flatMap entL) m.data 600 (by omega) (by omega)
  have et : (headL m).flatMap numL ++ numL (if m.yes then 1 else 0) ++ textL m.data ++ (numL es.length ++ es.flatMap entL) = bs := by rw [hb1]; simp [List.append_assoc]
  rw [et] at ht
  have ht' : txR bs = (bytesOf m.data, ⟨((headL m).flatMap numL ++ numL (if m.yes then 1 else 0) ++ textL m.data).length, 0⟩) := by
    rw [txR, hf']
    simp only []
    rw [ht]
    simp [Nat.add_assoc]
  have hc := rCount_put ((headL m).flatMap numL ++ numL (if m.yes then 1 else 0) ++ textL m.data) (es.flatMap entL) es.length 8 (by omega) (ents_ge es) (by omega)
  have ec : (headL m).flatMap numL ++ numL (if m.yes then 1 else 0) ++ textL m.data ++ numL es.length ++ es.flatMap entL = bs := by rw [hb1]; simp [List.append_assoc]
  rw [ec] at hc
  have hc' : coR bs = ((es.length : Int), ⟨(startL m es.length).length, 0⟩) := by
    rw [coR, ht']
    simp only []
    rw [hc, startL]
    simp [Nat.add_assoc]
  have hn : gN bs = es.length := by rw [gN, hc']; simp
  have hp := ents_put (startL m es.length) bs es (by rw [← hbs, ltL]) (fun x hx => by
    obtain ⟨p1, p2, _⟩ := hs.ents x hx
    exact ⟨p1, p2, he x hx⟩) es.length (Nat.le_refl _)
  rw [List.take_length] at hp
  have hE : gEs bs = es := by rw [gEs, hc', hn]; exact hp.2
  have hM : gM bs = m := by
    have v := fun k (hk : k < (headL m).length) => (hS k (by omega)).2 hk
    have v0 := v 0 (by simp [headL])
    have v1 := v 1 (by simp [headL])
    have v2 := v 2 (by simp [headL])
    have v3 := v 3 (by simp [headL])
    have v4 := v 4 (by simp [headL])
    have v5 := v 5 (by simp [headL])
    have v6 := v 6 (by simp [headL])
    have v7 := v 7 (by simp [headL])
    have v8 := v 8 (by simp [headL])
    have v9 := v 9 (by simp [headL])
    simp only [headL, List.getElem_cons_zero, List.getElem_cons_succ] at v0 v1 v2 v3 v4 v5 v6 v7 v8 v9
    unfold gM
    rw [v0, v1, v2, v3, v4, v5, v6, v7, v8, v9, hf', ht']
    simp only [bytes_back]
  have hX : gErr bs = 0 := by
    rw [gErr, hc', hn]
    simp only []
    rw [hp.1, rEnd, if_neg]
    rintro ⟨_, h2⟩
    rw [← hbs, ltL] at h2
    exact absurd h2 (Nat.lt_irrefl _)
  rw [hbs]
  exact .inr (.inl ⟨hX, by rw [hM, hE]; exact h, rfl, hM.symm, hE.symm⟩)

theorem heads_step (bs : List UInt8) : ∀ k, (stN bs k).err = 0 → Rd1 bs ⟨0, 0⟩ (stN bs k) ((List.range k).flatMap fun i => numL (vN bs i))
  | 0, _ => Rd1.nil rfl
  | k + 1, h => by
    have h1 := rNum_step bs (stN bs k) h
    have h2 := (heads_step bs k h1.e0).trans h1
    rw [List.range_succ, List.flatMap_append]
    simp only [List.flatMap_cons, List.flatMap_nil, List.append_nil]
    exact h2
theorem entR_step (bs : List UInt8) (s : RS) (h : (entR bs s).2.err = 0) (h63 : bs.length ≤ 9223372036854775807) : Rd1 bs s (entR bs s).2 (entL (entR bs s).1) := by
  have h3 := rText_step bs _ 1100 h h63
  have h2 := rNum_step bs _ h3.e0
  have h1 := rNum_step bs s h2.e0
  exact (h1.trans h2).trans h3
theorem ents_step (bs : List UInt8) (s : RS) (h63 : bs.length ≤ 9223372036854775807) (hs : s.err = 0 ∨ True) : ∀ k, (entSt bs s k).err = 0 → Rd1 bs s (entSt bs s k) ((entsAt bs s k).flatMap entL)
  | 0, h => Rd1.nil h
  | k + 1, h => by
    have h1 := entR_step bs (entSt bs s k) h h63
    have h2 := (ents_step bs s h63 hs k h1.e0).trans h1
    rw [entsAt_succ, List.flatMap_append]
    simp only [List.flatMap_cons, List.flatMap_nil, List.append_nil]
    exact h2
/-- What bytes are read as has these bytes. -/
theorem read_is {bs : List UInt8} (h : gErr bs = 0) (h63 : bs.length ≤ 9223372036854775807) : ltL (gM bs) (gEs bs) = bs := by
  unfold gErr rEnd at h
  by_cases hc : (entSt bs (coR bs).2 (gN bs)).err = 0 ∧ (entSt bs (coR bs).2 (gN bs)).at_ < bs.length
  · rw [if_pos hc] at h
    cases h
  · rw [if_neg hc] at h
    have h5 := ents_step bs (coR bs).2 h63 (.inr trivial) (gN bs) h
    have h4 := rCount_step bs (txR bs).2 8 h5.e0
    have h3 := rText_step bs (flR bs).2 600 h4.e0 h63
    have h2 := rFlag_step bs (stN bs 10) h3.e0
    have h1 := heads_step bs 10 h2.e0
    have hall := ((((h1.trans h2).trans h3).trans h4).trans h5).all (fun hlt => hc ⟨h, hlt⟩)
    have e1 : (List.range 10).flatMap (fun i => numL (vN bs i)) = (headL (gM bs)).flatMap numL := by
      simp [List.range_succ, headL, gM]
    have e4 : (rCount bs (txR bs).2 8).1 = (gN bs : Int) := (gN_cast bs).1
    rw [e1, e4] at hall
    have hl : (gEs bs).length = gN bs := by rw [gEs, entsAt_len]
    rw [ltL, startL, hl]
    exact hall
end Go.Proofs.Ytpfdihidncofaaa
