/- The symbolic heap: one operation's step is sound, whatever the operation. Own work of this claim. -/
import Derived.Test.YtbcnkfkmonpdeaaSg
import Derived.IntWalk
namespace Go.Proofs.Ytbcnkfkmonpdeaa.S
set_option linter.all false
open Go

/-- A call that a symbolic step may make is sound. -/
def CallOk (P : Program) (call : CallT) : Prop := ∀ g args H nm K, call g args H nm K → ∀ (G : Nat → Prop) hp ν w (vs : Array Value), Inv G hp ν H w → F2 (VR ν) args vs.toList →
  (callFunc g vs).run P w = .ok (.enter g vs) w ∧ Calls P g vs w fun e w' => ∃ c r H' ν', e = .returned c ∧ Keeps ν ν' ∧ VR ν' r c ∧ Inv G hp ν' H' w' ∧ K r H'

section
variable {P : Program} {G : Nat → Prop} {hp : HP} {ν : Nm} {H : Heap} {w : World}

theorem fresh_ok {nm : Nat} (hi : Inv G hp ν H w) (hn : aget H nm = none) (arr : Array Value) (T : TypeId) (lv : LV) (hF : F2 (CR ν) lv.toL arr.toList) :
    Keeps ν (upd ν nm ⟨w.heap.size, 0, arr.size, lv.z⟩) ∧ Inv G hp (upd ν nm ⟨w.heap.size, 0, arr.size, lv.z⟩) (aset H nm (.c true lv)) (w.alloc (.cells arr T)) :=
  ⟨Keeps.upd _ (hi.dom nm hn), hi.alloc hn arr T lv (by rw [hF.length]; simp) (fun k c hk => by
    obtain ⟨v, hv, hr⟩ := hF.get hk
    exact ⟨v, by simpa using hv, hr⟩)⟩

theorem F2.rep {R : AV → Value → Prop} {l : List AV} {m : List Value} (h : F2 R l m) : ∀ n, F2 R (List.replicate n l).flatten (List.replicate n m).flatten
  | 0 => by simp; exact .nil
  | n + 1 => by rw [List.replicate_succ, List.replicate_succ, List.flatten_cons, List.flatten_cons]; exact h.append (h.rep n)
theorem rep_get {α : Type} (l : List α) (hl : 0 < l.length) : ∀ (n k : Nat), k < n * l.length → (List.replicate n l).flatten[k]? = l[k % l.length]?
  | 0, k, h => by omega
  | n + 1, k, h => by
    rw [List.replicate_succ, List.flatten_cons]
    by_cases hk : k < l.length
    · rw [List.getElem?_append_left hk, Nat.mod_eq_of_lt hk]
    · rw [List.getElem?_append_right (by omega), rep_get l hl n (k - l.length) (by rw [Nat.add_mul] at h; omega)]
      congr 1
      conv => rhs; rw [show k = (k - l.length) + l.length by omega, Nat.add_mod_right]
theorem rep_cells (z : Array Value) (hz : 0 < z.size) (n : Nat) : ((Array.range (n * z.size)).map (z[· % z.size]!)).toList = (List.replicate n z.toList).flatten := by
  apply List.ext_getElem?
  intro k
  by_cases hk : k < n * z.size
  · rw [rep_get z.toList (by simpa using hz) n k (by simpa using hk)]
    simp only [Array.toList_map, Array.length_toList]
    have hm : k % z.size < z.size := Nat.mod_lt _ hz
    simp [hk, hm]
  · have h1 : ((Array.range (n * z.size)).map (z[· % z.size]!)).toList[k]? = none := by
      rw [List.getElem?_eq_none]; simp; omega
    have h2 : (List.replicate n z.toList).flatten[k]? = none := by
      rw [List.getElem?_eq_none]; simp; omega
    rw [h1, h2]
theorem LV.rep_eq (ek z n : Nat) (zero : List AV) : (LV.rep ek z n zero).toL = (List.replicate n zero).flatten := by
  unfold LV.rep
  split
  · simp [LV.toL]
  · simp [LV.toL]
  · rfl

/-- 'append(nil, make(..)...)' is sound. -/
theorem run_append_make {t t2 ty e : TypeId} {k : IntKind} {i : TypeInfo} {z : Value} (ht : P.underlying t = some (.slice e)) (ht2 : P.underlying t2 = some (.int k)) (hi : P.info? e = some i) (hz : i.zero = some z)
    {base : Option Addr} {n : Nat} (hn : 0 < n) (hlim : n < lim40) (hby : i.bytes ≤ 120) (hsz : 0 < i.size) :
    (Builtin.append_ #[t, t2] ty #[.slice base 0 0, .int .i64 n]).run P w =
      .ok (.slice (some ⟨w.heap.size, 0, none⟩) (0 + n) (grownCap w (0 + n) 0 e))
        (w.drew.alloc (.cells (([] : List Value).toArray ++ (Builtin.zeroCells z.cells n).toList.toArray ++ Builtin.zeroCells z.cells (grownCap w (0 + n) 0 e - (0 + n))) e)) := by
  unfold lim40 at hlim
  have hwrap : IntKind.i64.wrap (n : Int) = n := IntWalk.i64_in _ (by omega)
  have h0 : ¬ ((n : Int) < 0) := by omega
  have h63' : ¬ (9223372036854775807 < (n : Int)) := by omega
  have h48' : ¬ (281474976710656 < Builtin.nextslicecap n 0 * i.bytes) := by
    have h1 := nextslicecap_le (need := n) (old := 0) hn
    have h2 : Builtin.nextslicecap n 0 * i.bytes ≤ (2 * n) * 120 := Nat.mul_le_mul h1 hby
    omega
  have h48 : ¬ ((281474976710656 : Int) < (n : Int) * (i.bytes : Int)) := by
    have h1 : (n : Int) * (i.bytes : Int) ≤ (n : Int) * 120 := Int.mul_le_mul_of_nonneg_left (by omega) (by omega)
    omega
  have hns : ¬ (n = 0 ∨ i.size = 0) := by omega
  have hf : (Builtin.firstCells i.size 0 (.slice base 0 0)).run P w.drew = .ok #[] w.drew := by cases base <;> simp [Builtin.firstCells, loadCells, loadCellsFrom]
  have hn0 : ¬ n = 0 := by omega
  have hs0 : ¬ i.size = 0 := by omega
  simp [Builtin.append_, run_underlying ht, run_underlying ht2, sizeOf, typeInfo, zeroValue, hi, hz, asInt, asIntOf, hwrap, h0, h48, hn0, hs0, h63', h48', Question.forced, newRow, grownCap]
  have e1 : ({ heap := w.heap, tape := w.tape, drawn := w.drawn + 1, os := w.os, output := w.output } : World) = w.drew := rfl
  first
    | (rw [hf]; simp)
    | (simp [World.drew] at hf; simp [hf])
  intro hc
  rcases Nat.mul_eq_zero.1 hc with hc | hc <;> omega
theorem sMake_ok {nm : Nat} {t t2 ty : TypeId} {k : IntKind} {s x : AV} {cs cx : Value} {K : Kt} (hi : Inv G hp ν H w) (hs : VR ν s cs) (hx : VR ν x cx) (ht2 : P.underlying t2 = some (.int k)) (h : sMake P nm H t s x K) :
    Runs P G hp ν (Builtin.append_ #[t, t2] ty #[cs, cx]) w K := by
  unfold sMake at h
  split at h
  case h_2 => exact h.elim
  case h_1 e n ht =>
  obtain ⟨⟨hnm, h0, hlim, hpos, hzl, hby, hz⟩, h⟩ := h
  obtain ⟨i, z, q1, q2, q3, q4, q5, q6⟩ := zero_ok hpos hzl ν
  have hu := tyI_slice ht
  obtain ⟨p, rfl⟩ := hs
  obtain rfl : cx = .int .i64 n := hx
  obtain ⟨m, rfl⟩ : ∃ m : Nat, n = m := ⟨n.toNat, by omega⟩
  rw [Int.toNat_natCast] at h hz
  have hzp : 0 < z.cells.size := by rw [q5]; exact hpos
  by_cases hm : m = 0
  · subst hm
    have hr : (Builtin.append_ #[t, t2] ty #[.slice p 0 0, .int .i64 (0 : Nat)]).run P w = .ok (.slice p 0 0) w := by
      have hwrap : IntKind.i64.wrap 0 = 0 := IntWalk.i64_in _ (by omega)
      cases p <;> simp [Builtin.append_, run_underlying hu, run_underlying ht2, sizeOf, typeInfo, q1, asInt, asIntOf, hwrap, storeCells]
    refine ⟨_, _, ν, .sl nm 0 0, _, hr, .refl ν, Or.inr ⟨rfl, p, rfl⟩, hi.fresh hnm _ ?_, h⟩
    rw [LV.rep_eq]; rfl
  · have hr := run_append_make (P := P) (w := w) (ty := ty) hu ht2 q1 q2 (base := p) (n := m) (by omega) (by unfold lim40 at hlim ⊢; omega) (by rw [q4]; exact hby) (by rw [q3]; exact hpos)
    have hF : F2 (CR ν) (LV.rep (tyI P e).ek (tyI P e).sz m (tyI P e).zero).toL (Builtin.zeroCells z.cells m).toList := by
      rw [LV.rep_eq, Builtin.zeroCells, rep_cells z.cells hzp]
      exact F2.rep q6 _
    obtain ⟨ν', hk, hv, hI⟩ := grown_ok (w := w) (e := e) hi hnm (lb := .av (tyI P e).sz []) (olds := []) .nil hF rfl hz (a := 0) (b := m) (by simp) (by rw [Array.length_toList, size_zeroCells, q5]; rfl) (zc := z.cells) (by rw [q5]; rfl) (grownCap_ge w (0 + m) 0 e)
    refine ⟨_, _, ν', _, _, hr, hk, hv, hI, ?_⟩
    simpa [LV.app2] using h

theorem fold_set (o : Nat) : ∀ (cs : List Value) (j : Nat) (arr : Array Value), o + j + cs.length ≤ arr.size →
    ((cs.zipIdx j).foldl (fun (a : Array Value) p => a.setIfInBounds (o + p.2) p.1) arr) = (arr.toList.take (o + j) ++ cs ++ arr.toList.drop (o + j + cs.length)).toArray
  | [], j, arr, _ => by simp
  | c :: cs, j, arr, h => by
    rw [List.zipIdx_cons, List.foldl_cons, fold_set o cs (j + 1) _ (by simp at h ⊢; omega)]
    congr 1
    have := list_seg_step arr.toList (o + j) c cs (by simp at h ⊢; omega)
    simpa [Array.toList_setIfInBounds, Nat.add_assoc] using this
theorem fill_step (place : Nat → Option (Nat × Nat)) (cells : Array Value) (i : Nat) (v : Value) (rest : List (Nat × Value)) (off sz : Nat) (hp : place i = some (off, sz)) (h1 : v.cells.size = sz) (h2 : off + sz ≤ cells.size) :
    Instr.fill place cells ((i, v) :: rest) = Instr.fill place (cells.toList.take off ++ v.cells.toList ++ cells.toList.drop (off + sz)).toArray rest := by
  simp only [Instr.fill, hp]
  rw [if_neg (by simp; omega)]
  congr 1
  have := fold_set off v.cells.toList 0 cells (by simp; omega)
  simp only [Nat.add_zero, Array.length_toList, h1] at this
  rw [← this, ← Array.foldl_toList, Array.toList_zipIdx]
theorem fill_ok (place : Nat → Option (Nat × Nat)) : ∀ (parts : List (Nat × AV)) (vparts : List (Nat × Value)) (cs : List AV) (cells : Array Value) (res : List AV),
    F2 (fun p q => p.1 = q.1 ∧ VR ν p.2 q.2) parts vparts → F2 (CR ν) cs cells.toList → fillL place cs parts = some res → ∃ arr, Instr.fill place cells vparts = some arr ∧ F2 (CR ν) res arr.toList
  | [], _, cs, cells, res, .nil, hF, h => by simp [fillL] at h; subst h; exact ⟨cells, rfl, hF⟩
  | (i, x) :: r, (j, v) :: vr, cs, cells, res, .cons hp hr, hF, h => by
    obtain ⟨rfl, hv⟩ := hp
    simp only [fillL] at h
    split at h
    · rename_i off sz hpl
      split at h
      · rename_i hc
        obtain ⟨c1, c2, c3⟩ := hc
        have hcs := (hv.fits c3).cells
        have hvs : v.cells.size = sz := by rw [← c1, hcs.length]; simp
        have hlen : cs.length = cells.size := by rw [hF.length]; simp
        rw [fill_step place cells i v vr off sz hpl hvs (by omega)]
        exact fill_ok place r vr _ _ res hr (((hF.take off).append hcs).append (hF.drop _)) h
      · cases h
    · cases h
theorem fillL_row (sz : Nat) : ∀ (parts : List (Nat × AV)) (k : Nat) (cs : List AV), partsIn k parts = true → (parts.all fun p => (cellsOf p.2).length == sz) = true → (k + parts.length) * sz ≤ cs.length →
    fillL (fun i => some (i * sz, sz)) cs parts = some (cs.take (k * sz) ++ parts.flatMap (fun p => cellsOf p.2) ++ cs.drop ((k + parts.length) * sz))
  | [], k, cs, _, _, _ => by simp [fillL]
  | (i, x) :: r, k, cs, h1, h2, h3 => by
    simp only [partsIn, Bool.and_eq_true, beq_iff_eq] at h1
    obtain ⟨⟨rfl, hf⟩, h1⟩ := h1
    simp only [List.all_cons, Bool.and_eq_true, beq_iff_eq] at h2
    simp only [List.length_cons] at h3
    have e : (i + 1) * sz = i * sz + sz := by rw [Nat.add_mul, Nat.one_mul]
    have e2 : (i + 1 + r.length) * sz = (i + (r.length + 1)) * sz := by congr 1; omega
    have hle : (i + 1) * sz ≤ (i + (r.length + 1)) * sz := Nat.mul_le_mul_right _ (by omega)
    simp only [fillL]
    have hl : (cs.take (i * sz)).length = i * sz := by rw [List.length_take]; omega
    rw [if_pos ⟨h2.1, by omega, hf⟩, fillL_row sz r (i + 1) _ h1 h2.2 (by simp [h2.1]; omega)]
    congr 1
    rw [e, e2]
    have t1 : (List.take (i * sz) cs ++ cellsOf x ++ List.drop (i * sz + sz) cs).take (i * sz + sz) = List.take (i * sz) cs ++ cellsOf x := by
      rw [List.take_append_of_le_length (by simp [h2.1]; omega), List.take_of_length_le (by simp [h2.1]; omega)]
    have t2 : (List.take (i * sz) cs ++ cellsOf x ++ List.drop (i * sz + sz) cs).drop ((i + (r.length + 1)) * sz) = cs.drop ((i + (r.length + 1)) * sz) := by
      rw [List.drop_append, List.drop_of_length_le (by simp [h2.1]; omega), List.nil_append, List.drop_drop]
      congr 1
      simp [h2.1]; omega
    rw [t1, t2]
    simp [List.append_assoc]

/-- What is asked behind an operation. -/
def Nexts (G : Nat → Prop) (hp : HP) (ν : Nm) (o : Oper) (a : Act) (K : Kt) (next : Act → World → Prop) : Prop :=
  ∀ ν' v c H' w', Keeps ν ν' → VR ν' v c → Inv G hp ν' H' w' → K v H' → next (a.put o.dst c) w'
theorem wp_runs {o : Oper} {a : Act} {K : Kt} {next : Act → World → Prop} {Q : Exit → Act → World → Prop} {s : Sem Value}
    (hn : Nexts G hp ν o a K next) (hs : execOp a.eval o = (do pure (.value (← s)))) (h : Runs P G hp ν s w K) : o.wp P a w next Q := by
  obtain ⟨c, w', ν', v, H', h1, h2, h3, h4, h5⟩ := h
  unfold Oper.wp
  rw [hs]
  simp only [Sem.run_bind, h1, Result.andThen_ok, Sem.run_pure, Oper.upon]
  exact hn _ _ _ _ _ h2 h3 h4 h5
theorem wp_pures {o : Oper} {a : Act} {K : Kt} {next : Act → World → Prop} {Q : Exit → Act → World → Prop} {s : Sem Value}
    (hn : Nexts G hp ν o a K next) (hi : Inv G hp ν H w) (hs : execOp a.eval o = (do pure (.value (← s)))) (h : Pures P ν s w fun v => K v H) : o.wp P a w next Q := by
  obtain ⟨c, v, h1, h2, h3⟩ := h
  exact wp_runs hn hs ⟨c, w, ν, v, H, h1, .refl ν, h2, hi, h3⟩
theorem wp_value {o : Oper} {a : Act} {K : Kt} {next : Act → World → Prop} {Q : Exit → Act → World → Prop} {c : Value} {v : AV}
    (hn : Nexts G hp ν o a K next) (hi : Inv G hp ν H w) (hs : execOp a.eval o = pure (.value c)) (hv : VR ν v c) (h : K v H) : o.wp P a w next Q := by
  unfold Oper.wp
  rw [hs]
  simp only [Sem.run_pure, Oper.upon]
  exact hn _ _ _ _ _ (.refl ν) hv hi h

theorem buildSlice_ok {nm : Nat} {t e : TypeId} {len : Nat} {parts : List (Nat × AV)} {vparts : Array (Nat × Value)} {K : Kt} (hi : Inv G hp ν H w) (ht : (tyI P t).tk = .slice e)
    (hF : F2 (fun p q => p.1 = q.1 ∧ VR ν p.2 q.2) parts vparts.toList)
    (hn : aget H nm = none) (hl : parts.length = len) (hs : len * (tyI P e).sz ≤ 16777216) (hpos : 0 < (tyI P e).sz) (hz : (tyI P e).zero.length = (tyI P e).sz)
    (h1 : partsIn 0 parts = true) (h2 : (parts.all fun p => (cellsOf p.2).length == (tyI P e).sz) = true) (lv : LV) (hlv : lv.toL = parts.flatMap fun p => cellsOf p.2) (hlz : lv.z = (tyI P e).sz)
    (hK : K (.sl nm 0 len) (aset H nm (.c true lv))) : Runs P G hp ν (Instr.buildSlice t len vparts) w K := by
  obtain ⟨i, z, q1, q2, q3, q4, q5, q6⟩ := zero_ok hpos hz ν
  have hu := tyI_slice ht
  generalize hszd : (tyI P e).sz = sz at *
  have hzp : 0 < z.cells.size := by rw [q5]; exact hpos
  have hbase : F2 (CR ν) (List.replicate len (tyI P e).zero).flatten (((Array.range (len * sz)).map (z.cells[· % z.cells.size]!))).toList := by
    have := rep_cells z.cells hzp len
    rw [q5] at this ⊢
    rw [this]
    exact F2.rep q6 len
  have hblen : (List.replicate len (tyI P e).zero).flatten.length = len * sz := by simp [hz]
  have hfill := fillL_row sz parts 0 (List.replicate len (tyI P e).zero).flatten h1 h2 (by rw [hblen, hl]; simp)
  have hres : (List.replicate len (tyI P e).zero).flatten.take (0 * sz) ++ parts.flatMap (fun p => cellsOf p.2) ++ (List.replicate len (tyI P e).zero).flatten.drop ((0 + parts.length) * sz) = lv.toL := by
    rw [hlv, List.drop_of_length_le (by rw [hblen, hl]; simp)]
    simp
  rw [hres] at hfill
  obtain ⟨arr, f1, f2⟩ := fill_ok (ν := ν) _ parts vparts.toList _ ((Array.range (len * sz)).map (z.cells[· % z.cells.size]!)) _ hF hbase hfill
  have hrun : (Instr.buildSlice t len vparts).run P w = .ok (.slice (some ⟨w.heap.size, 0, none⟩) len len) (w.alloc (.cells arr e)) := by
    by_cases h0 : len * sz = 0
    · have hl0 : len = 0 := by rcases Nat.mul_eq_zero.1 h0 with h | h <;> omega
      subst hl0
      have hr0 : Array.range 0 = #[] := rfl
      have hp0 : parts = [] := List.eq_nil_of_length_eq_zero hl
      have hv0 : vparts = #[] := by
        have := hF.length
        rw [hp0] at this
        exact Array.eq_empty_of_size_eq_zero (by simpa using this.symm)
      have ha0 : arr = #[] := by
        have := f2.length
        rw [hlv, hp0] at this
        exact Array.eq_empty_of_size_eq_zero (by simpa using this.symm)
      subst hv0 ha0
      simp [Instr.buildSlice, run_underlying hu, sizeOf, typeInfo, q1, newRow, Instr.fill, hr0]
    · simp [Instr.buildSlice, run_underlying hu, sizeOf, typeInfo, zeroValue, q1, q2, q3, newRow, f1, h0, Nat.not_lt.2 hs]
  obtain ⟨hk, hI⟩ := fresh_ok hi hn arr e lv f2
  refine ⟨_, _, _, .sl nm 0 len, _, hrun, hk, Or.inl ⟨_, len, upd_self _ _ _, Nat.le_refl _, ?_, rfl⟩, hI, hK⟩
  have : arr.size = len * sz := by
    have := f2.length
    simp only [Array.length_toList] at this
    rw [← this, ← hblen]
    have hh := congrArg List.length hres
    simp only [List.length_append, List.length_take, List.length_drop] at hh
    have hb := hblen
    have : (parts.flatMap fun p => cellsOf p.2).length = len * sz := by
      have hall : ∀ (l : List (Nat × AV)), (l.all fun p => (cellsOf p.2).length == sz) = true → (l.flatMap fun p => cellsOf p.2).length = l.length * sz := by
        intro l
        induction l with
        | nil => simp
        | cons p l ih =>
          intro h
          simp only [List.all_cons, Bool.and_eq_true, beq_iff_eq] at h
          rw [List.flatMap_cons, List.length_append, h.1, ih h.2, List.length_cons, Nat.add_mul]; omega
      rw [hall parts h2, hl]
    rw [hlv, this, hb]
  simp only [this, hlz]; omega

theorem parts_ok {env : Env} {a : Act} (he : EnvRel ν env a.tmps) (parts : Array (Nat × Operand)) :
    F2 (fun p q => p.1 = q.1 ∧ VR ν p.2 q.2) (parts.toList.map fun p => (p.1, ev env p.2)) (parts.map fun (i, x) => (i, a.eval x)).toList := by
  rw [Array.toList_map]
  exact F2.mapr (fun p => ⟨rfl, ev_ok he p.2⟩) _

end
end Go.Proofs.Ytbcnkfkmonpdeaa.S
