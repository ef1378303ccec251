/- The symbolic heap: soundness of append and of what makes memory. Own work of this claim. -/
import Derived.Test.YtbcnkfkmonpdeaaSf
namespace Go.Proofs.Ytbcnkfkmonpdeaa.S
set_option linter.all false
open Go

section
variable {P : Program} {G : Nat → Prop} {hp : HP} {ν : Nm} {H : Heap} {w : World}

theorem src_ok {sz : Nat} {x : AV} {cx : Value} {lx : LV} {b : Nat} (hi : Inv G hp ν H w) (hx : VR ν x cx) (h : srcOf H sz x = some lx) (hb : lenOf? x = some b) :
    lx.z = sz ∧ ∃ px cX, ∃ news : List Value, cx = .slice px b cX ∧ news.length = b * sz ∧ F2 (CR ν) lx.toL news ∧ ∀ w' : World, w'.heap = w.heap → (Builtin.firstCells sz b cx).run P w' = .ok news.toArray w' := by
  unfold srcOf at h
  split at h
  · cases h; cases hb
    obtain ⟨p, rfl⟩ := hx
    refine ⟨rfl, p, 0, [], rfl, by simp, .nil, fun w' _ => ?_⟩
    cases p <;> simp [Builtin.firstCells, loadCells, loadCellsFrom]
  · rename_i n o len
    obtain rfl : len = b := by simpa [lenOf?] using hb
    split at h
    · rename_i own lv hH
      split at h
      · rename_i hc
        cases h
        refine ⟨by rw [LV.view_z]; exact hc.2, ?_⟩
        rcases hx with ⟨L, c, h1, h2, h3, rfl⟩ | ⟨rfl, p, rfl⟩
        · obtain ⟨vs, q1, q2, q3⟩ := (hi.er n _ hH).cells h1 o (len * sz) hc.1
          refine ⟨_, _, vs, rfl, q2, by rw [LV.view_eq]; exact q1, fun w' hw' => ?_⟩
          refine run_firstCells_some (P := P) w' sz len _ _ _ vs q2 ?_
          intro j v hj
          have := q3 j v hj
          simpa [World.cell?, hw'] using this
        · refine ⟨p, 0, [], rfl, by simp, by rw [LV.view_eq]; simp; exact .nil, fun w' _ => ?_⟩
          cases p <;> simp [Builtin.firstCells, loadCells, loadCellsFrom]
      · cases h
    · cases h
  · cases h

theorem run_append_room' {t t2 ty e e2 : TypeId} {i : TypeInfo} (ht : P.underlying t = some (.slice e)) (ht2 : P.underlying t2 = some (.slice e2)) (hi : P.info? e = some i)
    {base : Option Addr} {sLen sCap : Nat} {px : Option Addr} {m cX : Nat} {news : List Value}
    (hf : (Builtin.firstCells i.size m (.slice px m cX)).run P w = .ok news.toArray w) (hroom : sLen + m ≤ sCap) {w' : World}
    (hst : (match base with | some a => storeCells (a.add (sLen * i.size)) news | none => pure ()).run P w = .ok () w') :
    (Builtin.append_ #[t, t2] ty #[.slice base sLen sCap, .slice px m cX]).run P w = .ok (.slice base (sLen + m) sCap) w' := by
  cases base with
  | none =>
    simp at hst
    subst hst
    simp [Builtin.append_, run_underlying ht, run_underlying ht2, sizeOf, typeInfo, hi, Builtin.lenOf, hroom, hf]
  | some a =>
    simp only at hst
    simp [Builtin.append_, run_underlying ht, run_underlying ht2, sizeOf, typeInfo, hi, Builtin.lenOf, hroom, hf, hst]

theorem run_append_grow' {t t2 ty e e2 : TypeId} {i : TypeInfo} {z : Value} (ht : P.underlying t = some (.slice e)) (ht2 : P.underlying t2 = some (.slice e2)) (hi : P.info? e = some i) (hz : i.zero = some z)
    {base : Option Addr} {sLen sCap : Nat} {px : Option Addr} {m cX : Nat} {olds news : List Value}
    (hfo : (Builtin.firstCells i.size sLen (.slice base sLen sCap)).run P w.drew = .ok olds.toArray w.drew)
    (hf : (Builtin.firstCells i.size m (.slice px m cX)).run P w.drew = .ok news.toArray w.drew) (hg : sCap < sLen + m) (hlim : sLen + m < lim40) (hby : i.bytes ≤ 120) :
    (Builtin.append_ #[t, t2] ty #[.slice base sLen sCap, .slice px m cX]).run P w =
      .ok (.slice (some ⟨w.heap.size, 0, none⟩) (sLen + m) (grownCap w (sLen + m) sCap e))
        (w.drew.alloc (.cells (olds.toArray ++ news.toArray ++ Builtin.zeroCells z.cells (grownCap w (sLen + m) sCap e - (sLen + m))) e)) := by
  have hn : ¬ (sLen + m ≤ sCap) := by omega
  unfold lim40 at hlim
  have h63' : ¬ (9223372036854775807 < ((sLen : Int) + (m : Int))) := by omega
  have h48' : ¬ (281474976710656 < Builtin.nextslicecap (sLen + m) sCap * i.bytes) := by
    have h1 := nextslicecap_le (need := sLen + m) (old := sCap) hg
    have h2 : Builtin.nextslicecap (sLen + m) sCap * i.bytes ≤ (2 * (sLen + m)) * 120 := Nat.mul_le_mul h1 hby
    omega
  simp [Builtin.append_, run_underlying ht, run_underlying ht2, sizeOf, typeInfo, zeroValue, hi, hz, Builtin.lenOf, hn, h63', h48', Question.forced, newRow, grownCap]
  have e1 : ({ heap := w.heap, tape := w.tape, drawn := w.drawn + 1, os := w.os, output := w.output } : World) = w.drew := rfl
  first
    | (rw [hfo]; simp [hf])
    | (simp [World.drew] at hfo hf; simp [hfo, hf])
  congr 2
  apply Array.ext'
  simp [List.append_assoc]

theorem aset_aset {β : Type} (l : List (Nat × β)) (n : Nat) (x y : β) : aset (aset l n x) n y = aset l n y := by
  induction l with
  | nil => simp [aset]
  | cons p r ih =>
    obtain ⟨k, e⟩ := p
    by_cases h : k = n
    · simp [aset, h]
    · simp [aset, h, ih]

/-- A new block that holds what was there and what is new. -/
theorem grown_ok {nm : Nat} {H' : Heap} (hi : Inv G hp ν H' w) (hn : aget H' nm = none) {lb lx : LV} {sz a b cap : Nat} {olds news : List Value} {zc : Array Value} {e : TypeId}
    (hlb : F2 (CR ν) lb.toL olds) (hlx : F2 (CR ν) lx.toL news) (hza : lb.z = sz) (hzx : lx.z = sz) (h1 : olds.length = a * sz) (h2 : news.length = b * sz) (hzc : zc.size = sz) (hcap : a + b ≤ cap) :
    ∃ ν', Keeps ν ν' ∧ VR ν' (.sl nm 0 (a + b)) (.slice (some ⟨w.heap.size, 0, none⟩) (a + b) cap) ∧
      Inv G hp ν' (aset H' nm (.c true (lb.app2 lx))) (w.drew.alloc (.cells (olds.toArray ++ news.toArray ++ Builtin.zeroCells zc (cap - (a + b))) e)) := by
  have hz : (lb.app2 lx).z = sz := by rw [LV.app2_z _ _ (by rw [hza, hzx]), hza]
  have hsize : (olds.toArray ++ news.toArray ++ Builtin.zeroCells zc (cap - (a + b))).size = cap * sz := by
    simp only [Array.size_append, List.size_toArray, size_zeroCells, hzc, h1, h2, ← Nat.add_mul]
    congr 1; omega
  have hF : F2 (CR ν) (lb.app2 lx).toL (olds ++ news) := by rw [LV.app2_eq]; exact hlb.append hlx
  have hI := (hi.heap (w' := w.drew) rfl ⟨rfl, rfl, rfl⟩).alloc hn (olds.toArray ++ news.toArray ++ Builtin.zeroCells zc (cap - (a + b))) e (lb.app2 lx)
    (by rw [hF.length, hsize, List.length_append, h1, h2, ← Nat.add_mul]; exact Nat.mul_le_mul_right _ hcap)
    (by
      intro k c hk
      obtain ⟨v, hv, hr⟩ := hF.get hk
      refine ⟨v, ?_, hr⟩
      have hlt : k < (olds ++ news).length := (List.getElem?_eq_some_iff.1 hv).1
      rw [Array.getElem?_append_left (by simpa using hlt)]
      simpa using hv)
  refine ⟨_, Keeps.upd _ (hi.dom nm hn), ?_, hI⟩
  refine Or.inl ⟨_, cap, upd_self _ _ _, hcap, ?_, ?_⟩
  · simp only [hsize, hz]; omega
  · rfl

theorem sAppend_ok {nm : Nat} {t t2 e2 ty : TypeId} {s x : AV} {cs cx : Value} {K : Kt} (hi : Inv G hp ν H w) (hs : VR ν s cs) (hx : VR ν x cx) (ht2 : (tyI P t2).tk = .slice e2) (h : sAppend P nm H t s x K) :
    Runs P G hp ν (Builtin.append_ #[t, t2] ty #[cs, cx]) w K := by
  unfold sAppend at h
  split at h
  case h_2 => exact h.elim
  case h_1 e ht =>
  split at h
  case h_2 => exact h.elim
  case h_1 lb n0 lx a b hbase hsrc hla hlb' =>
  obtain ⟨⟨hnm, hlim, hpos, hzl, hby, hne⟩, h⟩ := h
  obtain ⟨i, z, q1, q2, q3, q4, q5, _⟩ := zero_ok hpos hzl ν
  obtain ⟨hzx, px, cX, news, rfl, hnl, hnF, hnR⟩ := src_ok (P := P) hi hx hsrc hlb'
  have hu := tyI_slice ht
  have hu2 := tyI_slice ht2
  generalize hszd : (tyI P e).sz = sz at *
  -- the base
  have hB : ∃ H', killO H n0 = H' ∧ Inv G hp ν H' w ∧ aget H' nm = none ∧ lb.z = sz := by
    cases s <;> simp only [baseOf] at hbase <;> try cases hbase
    case emp => exact ⟨H, rfl, hi, hnm, rfl⟩
    case sl n o len =>
      split at hbase
      · rename_i lv hH
        split at hbase
        · rename_i hc
          cases hbase
          refine ⟨_, rfl, hi.kill hH, ?_, by rw [LV.view_z]; exact hc.2⟩
          simp only [killO]
          rw [aget_aset]
          split
          · rename_i e'; subst e'; rw [hH] at hnm; cases hnm
          · exact hnm
        · cases hbase
      · cases hbase
  obtain ⟨H', hH', hI', hnm', hzb⟩ := hB
  rw [hH'] at h
  -- what happens when there is no room
  have grow : ∀ (p : Option Addr) (cS : Nat) (olds : List Value), cs = .slice p a cS → F2 (CR ν) lb.toL olds → olds.length = a * sz →
      (Builtin.firstCells sz a (.slice p a cS)).run P w.drew = .ok olds.toArray w.drew → cS < a + b → Runs P G hp ν (Builtin.append_ #[t, t2] ty #[cs, .slice px b cX]) w K := by
    intro p cS olds hcs hF hol hfo hg
    subst hcs
    have hr := run_append_grow' (P := P) (w := w) (ty := ty) hu hu2 q1 q2 (base := p) (sLen := a) (sCap := cS) (px := px) (m := b) (cX := cX) (olds := olds) (news := news) (by rw [q3]; exact hfo) (by rw [q3]; exact hnR _ rfl) hg hlim (by rw [q4]; exact hby)
    obtain ⟨ν', hk, hv, hI⟩ := grown_ok (e := e) hI' hnm' hF hnF hzb hzx hol hnl (zc := z.cells) (by rw [q5]) (grownCap_ge w (a + b) cS e)
    exact ⟨_, _, ν', _, _, hr, hk, hv, hI, h⟩
  -- no room is asked of what has none
  have none_ : ∀ (p : Option Addr), a = 0 → cs = .slice p 0 0 → lb.toL = [] → Runs P G hp ν (Builtin.append_ #[t, t2] ty #[cs, .slice px b cX]) w K := by
    intro p ha hcs hl
    subst ha
    by_cases hb0 : b = 0
    · subst hb0
      have hn0 : news = [] := List.eq_nil_of_length_eq_zero (by simpa using hnl)
      subst hn0
      subst hcs
      have hr := run_append_room' (P := P) (w := w) (ty := ty) hu hu2 q1 (base := p) (sLen := 0) (sCap := 0) (px := px) (m := 0) (cX := cX) (news := []) (by rw [q3]; exact hnR _ rfl) (by omega) (w' := w) (by cases p <;> rfl)
      refine ⟨_, _, ν, .sl nm 0 (0 + 0), _, hr, .refl ν, Or.inr ⟨rfl, p, rfl⟩, hI'.fresh hnm' _ ?_, h⟩
      rw [LV.app2_eq, hl]
      exact List.eq_nil_of_length_eq_zero (by rw [List.nil_append, hnF.length]; rfl)
    · exact grow p 0 [] hcs (by rw [hl]; exact .nil) (by simp) (by cases p <;> simp [Builtin.firstCells, loadCells, loadCellsFrom]) (by omega)
  cases s <;> simp only [baseOf] at hbase <;> try cases hbase
  case emp =>
    have ha : a = 0 := by simpa [lenOf?] using hla.symm
    obtain ⟨p, rfl⟩ := hs
    exact none_ p ha rfl rfl
  case sl n o len =>
    obtain rfl : len = a := by simpa [lenOf?] using hla
    split at hbase
    case h_2 => cases hbase
    case h_1 lv hH =>
    split at hbase
    case isFalse => cases hbase
    case isTrue hc =>
    cases hbase
    rcases hs with ⟨L, cS, h1, h2, h3, rfl⟩ | ⟨rfl, p, rfl⟩
    case inr => exact none_ p rfl rfl (by rw [LV.view_eq]; simp)
    have he := hi.er n _ hH
    obtain ⟨olds, o1, o2, o3⟩ := he.cells h1 o (len * sz) (by omega)
    by_cases hroom : len + b ≤ cS
    case neg =>
      refine grow _ cS olds rfl (by rw [LV.view_eq]; exact o1) o2 ?_ (by omega)
      refine run_firstCells_some (P := P) _ sz len _ _ _ olds o2 ?_
      intro j v hj
      exact o3 j v hj
    simp only [ER, h1] at he
    obtain ⟨e0, arr, T, fr, e1, e2, e3, e4, e5⟩ := he
    have e5 := e5 rfl
    subst e5
    have hez : L.esz = sz := by rw [e0]; exact hc.2
    rw [hez] at h3
    have hcap : len * sz + b * sz ≤ cS * sz := by rw [← Nat.add_mul]; exact Nat.mul_le_mul_right _ hroom
    have hone : ∀ v ∈ news, v.oneCell' = true := by
      intro v hv
      obtain ⟨j, hj, rfl⟩ := List.getElem_of_mem hv
      have hj' : j < lx.toL.length := by rw [hnF.length]; exact hj
      obtain ⟨b', hb', hr⟩ := hnF.get (i := j) (List.getElem?_eq_getElem hj')
      rw [List.getElem?_eq_getElem hj] at hb'
      cases hb'
      exact hr.one
    have hst := run_storeCells_at P L.blk (L.off + o + len * sz) T news 0 arr w e1 (by rw [hnl]; omega) hone
    have hr := run_append_room' (P := P) (w := w) (ty := ty) hu hu2 q1 (base := some ⟨L.blk, L.off + o, none⟩) (sLen := len) (sCap := cS) (px := px) (m := b) (cX := cX) (news := news) (by rw [q3]; exact hnR _ rfl) hroom (w' := w.setRow L.blk (arr.toList.take (L.off + o + len * sz) ++ news ++ arr.toList.drop (L.off + o + len * sz + news.length)).toArray) (by simp only [q3, add_loc]; exact hst)
    have hlvl : lv.toL.length = o + len * sz := by rw [LV.len_eq, hc.1]
    have hW := hi.write hH h1 arr (arr.toList.take (L.off + o + len * sz) ++ news ++ arr.toList.drop (L.off + o + len * sz + news.length)).toArray T e1
      (by simp; rw [hnl]; omega) (.av sz (lv.toL ++ lx.toL)) (by rw [hez]; rfl) (by simp only [LV.toL_av, List.length_append, hlvl, hnF.length, hnl]; omega)
      (by
        intro k c hk
        simp only [LV.toL_av] at hk
        rw [List.getElem?_toArray, seg_get _ _ _ (by rw [hnl]; simp; omega)]
        by_cases hk1 : k < lv.toL.length
        · rw [List.getElem?_append_left hk1] at hk
          obtain ⟨v, hv, c', hc', hcr⟩ := e4 k hk1
          rw [hk] at hc'; cases hc'
          refine ⟨v, ?_, hcr⟩
          rw [if_neg (by rw [hlvl] at hk1; omega), ← hv]; simp
        · rw [List.getElem?_append_right (by omega)] at hk
          obtain ⟨v, hv, hcr⟩ := hnF.get hk
          refine ⟨v, ?_, hcr⟩
          have := (List.getElem?_eq_some_iff.1 hv).1
          rw [if_pos (by rw [hlvl] at *; omega), ← hv]
          congr 1; rw [hlvl] at *; omega)
    have hnn : n ≠ nm := fun q => by subst q; rw [hH] at hnm; cases hnm
    obtain ⟨ν', k1, k2, _, _, k5⟩ := hW.rebase (n := n) (nm := nm) (lv := .av sz (lv.toL ++ lx.toL)) (by rw [aget_aset, if_pos rfl]) (by rw [aget_aset, if_neg hnn]; exact hnm) o ((lv.view o (len * sz)).app2 lx)
      (by rw [LV.app2_eq, LV.view_eq, LV.toL_av]; rw [List.drop_append_of_le_length (by omega), List.take_of_length_le (by rw [List.length_drop]; omega)])
      (by rw [LV.app2_z _ _ (by rw [hzb, hzx]), hzb]; rfl) (fun M hM => by rw [h1] at hM; cases hM; omega)
    rw [aset_aset, show aset H n Ent.dead = H' from hH'] at k5
    refine ⟨_, _, ν', _, _, hr, k1, ?_, k5, h⟩
    refine Or.inl ⟨_, cS, k2 L h1, hroom, ?_, rfl⟩
    simp only [hez]; omega

end
end Go.Proofs.Ytbcnkfkmonpdeaa.S
