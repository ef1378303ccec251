/- The symbolic heap: walking a region whose order is drawn. Own work of this claim. -/
import Derived.Test.YtbcnkfkmonpdeaaSr
namespace Go.Proofs.Ytbcnkfkmonpdeaa.S
set_option linter.all false
open Go

theorem W_drawn {P : Program} {call : CallT} (hc : CallOk P call) (hm : P.follows .mixedOrders = true) {nt : Nat} {ks : List It} {env : Env} {H : Heap} {R : Env → Heap → Prop} {id : Nat} {ops : Array Oper} {evs : List EvD}
    (hind : indep ops.toList evs = true) (hback : backB 0 ops.toList = true) (hev : EvAll P call ops.toList id 0 ops.toList evs env H)
    (h : W P nt ks (runs (evs.map EvD.wE) env) (runs (evs.map EvD.d) H) R) : W P nt (.code (.region id ops true) :: ks) env H R := by
  intro hk G hp hB ν a w st
  have hd : dstOk nt ops = true := hk (.code (.region id ops true)) (by simp)
  have hks : ∀ k ∈ ks, itOk nt k := fun k hk' => hk k (by simp [hk'])
  refine wp_region_any hm ?_
  have noS : ∀ {β : Type} (ws : List (List (Nat × β))) (s : List (Nat × β)) (k : Nat), aget (appS (fun j => (Array.replicate ops.size false).getD j false) 0 ws s) k = aget s k := by
    intro β ws s k
    have e : aget s k = aget (appS (fun j => decide (j < 0)) 0 ws s) k := by rw [appS_lt]; simp [runs]
    rw [e]
    refine appS_agree ws 0 s s rfl fun j w' _ _ => ?_
    have : (Array.replicate ops.size false).getD (0 + j) false = false := by
      simp only [Array.getD]; split
      · simp
      · rfl
    rw [this]; simp
  refine draw_sound hc hd hev hind hback (fun ν a w st => h hks G hp hB ν a w st) ops.size _ ν env H a _ (by simp) (by simp) ?_ (fun t => (noS _ _ t).symm) (fun n => (noS _ _ n).symm) ?_
  · intro j o _ hj
    have : (Array.replicate ops.size false).getD j false = false := by
      simp only [Array.getD]; split
      · simp
      · rfl
    rw [this] at hj; cases hj
  · exact ⟨st.defers, st.size, st.env, ⟨st.inv.er, st.inv.inj, st.inv.dom, st.inv.gfr, st.inv.nb, st.inv.own, st.inv.fx⟩⟩

/-! What an outcome depends on -/
def namesA : AV → List Nat
  | .ptr n _ => [n]
  | .sl n _ _ => [n]
  | _ => []
/-- Does it look at memory? -/
def rdM : Op → Bool
  | .load _ _ | .store _ _ _ | .slice _ _ _ _ _ | .convert _ _ _ => true
  | .call c => match c.callee with
    | .builtin .len | .builtin .cap => false
    | _ => true
  | _ => false
def fp (nm : Nat) (o : Oper) (ρ : Operand → AV) : List Nat := nm :: (if rdM o.op then o.op.operands.toList.flatMap fun x => namesA (ρ x) else [])
theorem rSlice_congr {P : Program} {g g' : Nat → Option Ent} {t : TypeId} {x : AV} {lo hi mx : Option (Option Int)} (h : ∀ n ∈ namesA x, g n = g' n) : rSlice P g t x lo hi mx = rSlice P g' t x lo hi mx := by
  unfold rSlice
  generalize (tyI P t).tk = z
  split
  · rfl
  · rename_i n o l lo hi
    rw [show g n = g' n from h n (by simp [namesA])]
  · rfl
  · rfl
  · rfl
  · rfl
theorem rLoad_congr {g g' : Nat → Option Ent} {ti : TI} {x : AV} (h : ∀ n ∈ namesA x, g n = g' n) : rLoad ti g x = rLoad ti g' x := by
  cases x
  case ptr n o =>
    have := h n (by simp [namesA])
    simp only [rLoad, this]
  all_goals rfl
theorem rStore_congr {g g' : Nat → Option Ent} {ti : TI} {x y : AV} (h : ∀ n ∈ namesA x, g n = g' n) : rStore ti g x y = rStore ti g' x y := by
  cases x
  case ptr n o =>
    have := h n (by simp [namesA])
    simp only [rStore, this]
  all_goals rfl
theorem srcG_congr {g g' : Nat → Option Ent} {sz : Nat} {x : AV} (h : ∀ n ∈ namesA x, g n = g' n) : srcG g sz x = srcG g' sz x := by
  cases x
  case sl n o l =>
    have := h n (by simp [namesA])
    simp only [srcG, this]
  all_goals rfl
theorem baseG_congr {g g' : Nat → Option Ent} {sz : Nat} {x : AV} (h : ∀ n ∈ namesA x, g n = g' n) : baseG g sz x = baseG g' sz x := by
  cases x
  case sl n o l =>
    have := h n (by simp [namesA])
    simp only [baseG, this]
  all_goals rfl
theorem rAppend_congr {P : Program} {g g' : Nat → Option Ent} {nm : Nat} {t : TypeId} {x y : AV} (h0 : g nm = g' nm) (h : ∀ n ∈ namesA x, g n = g' n) (h' : ∀ n ∈ namesA y, g n = g' n) : rAppend P nm g t x y = rAppend P nm g' t x y := by
  simp only [rAppend, baseG_congr h, srcG_congr h', h0]
theorem all_congr' {α : Type} {f f' : α → Bool} : ∀ {l : List α}, (∀ x ∈ l, f x = f' x) → l.all f = l.all f'
  | [], _ => rfl
  | a :: l, h => by simp only [List.all_cons]; rw [h a (by simp), all_congr' fun x hx => h x (by simp [hx])]
theorem flatMap_congr' {α γ : Type} {f f' : α → List γ} : ∀ {l : List α}, (∀ x ∈ l, f x = f' x) → l.flatMap f = l.flatMap f'
  | [], _ => rfl
  | a :: l, h => by simp only [List.flatMap_cons]; rw [h a (by simp), flatMap_congr' fun x hx => h x (by simp [hx])]
theorem mapM_congr' {α γ : Type} {f f' : α → Option γ} : ∀ {l : List α}, (∀ x ∈ l, f x = f' x) → l.mapM f = l.mapM f'
  | [], _ => rfl
  | a :: l, h => by simp only [List.mapM_cons]; rw [h a (by simp), mapM_congr' fun x hx => h x (by simp [hx])]
theorem optG_congr {ρ ρ' : Operand → AV} {x : Option Operand} (h : ∀ y, x = some y → ρ y = ρ' y) : optG ρ x = optG ρ' x := by
  cases x with
  | none => rfl
  | some y => simp only [optG, h y rfl]
theorem rCall_congr {P : Program} {nm : Nat} {c : Call} {ρ ρ' : Operand → AV} {g g' : Nat → Option Ent} (h : ∀ x ∈ c.operands, ρ x = ρ' x) (h0 : g nm = g' nm) (hg : rdM (.call c) = true → ∀ x ∈ c.operands, ∀ n ∈ namesA (ρ' x), g n = g' n) : rCall P nm g c ρ = rCall P nm g' c ρ' := by
  have hargs : ∀ x ∈ c.args, x ∈ c.operands := fun x hx => by simp [Call.operands, hx]
  have ha : ∀ i : Nat, (c.args[i]?).map ρ = (c.args[i]?).map ρ' := fun i => by
    cases hi : c.args[i]? with
    | none => rfl
    | some x => simp only [Option.map_some]; rw [h x (hargs x (Array.mem_of_getElem? hi))]
  have hga : rdM (.call c) = true → ∀ (i : Nat) v, (c.args[i]?).map ρ' = some v → ∀ n ∈ namesA v, g n = g' n := fun hm i v hv => by
    obtain ⟨x, hx, rfl⟩ := Option.map_eq_some_iff.1 hv
    exact hg hm x (hargs x (Array.mem_of_getElem? hx))
  have hl : c.args.toList.map ρ = c.args.toList.map ρ' := List.map_congr_left fun x hx => h x (hargs x (by simpa using hx))
  unfold rCall
  split
  · simp only [ha]
  · simp only [ha]
  · rename_i hcal
    simp only [ha]
    have hm : rdM (.call c) = true := by simp only [rdM, hcal]
    have h1 := hga hm 0
    have h2 := hga hm 1
    generalize (c.args[0]?).map ρ' = y at h1 ⊢
    generalize (c.args[1]?).map ρ' = z at h2 ⊢
    cases c.argTypes[0]? <;> cases c.argTypes[1]? <;> cases y <;> cases z <;> first | rfl | skip
    rename_i a b c d
    simp only [rAppend_congr h0 (h1 c rfl) (h2 d rfl), rMake, h0]
  · rename_i f hf
    have : ρ f = ρ' f := h f (by simp [Call.operands, hf])
    simp only [this, hl]
  · rfl
theorem res_congr {P : Program} {nm : Nat} {o : Oper} {ρ ρ' : Operand → AV} {g g' : Nat → Option Ent} (h : ∀ x ∈ o.op.operands, ρ x = ρ' x) (hg : ∀ n ∈ fp nm o ρ', g n = g' n) : res P nm o ρ g = res P nm o ρ' g' := by
  obtain ⟨dst, op, type, pos, after, guard⟩ := o
  have h0 : g nm = g' nm := hg nm (by simp [fp])
  have hx : rdM op = true → ∀ x ∈ op.operands, ∀ n ∈ namesA (ρ' x), g n = g' n := fun hm x hx n hn => hg n (by
    simp only [fp, hm, if_true, List.mem_cons, List.mem_flatMap]
    exact .inr ⟨x, by simpa using hx, hn⟩)
  have pairs : ∀ ps : Array (Nat × Operand), (∀ x ∈ ps.toList.map (·.2), ρ x = ρ' x) → (ps.toList.map fun p => (p.1, ρ p.2)) = (ps.toList.map fun p => (p.1, ρ' p.2)) := fun ps hp =>
    List.map_congr_left fun p hm => by
      have := hp p.2 (List.mem_map.2 ⟨p, hm, rfl⟩)
      rw [this]
  cases op <;> simp only [Op.operands] at h hx <;> simp only [res]
  case build t ps => rw [pairs ps fun x hx => h x (by simpa using hx)]
  case buildSlice t n ps =>
    have hp := pairs ps fun x hx => h x (by simpa using hx)
    have hq : ∀ p ∈ ps.toList, ρ p.2 = ρ' p.2 := fun p hm => h p.2 (by simp only [List.mem_toArray]; exact List.mem_map.2 ⟨p, hm, rfl⟩)
    have e1 : ∀ z, (ps.toList.all fun p => (cellsOf (ρ p.2)).length == z) = (ps.toList.all fun p => (cellsOf (ρ' p.2)).length == z) := fun z => all_congr' fun p hm => by rw [hq p hm]
    have e2 : (ps.toList.flatMap fun p => cellsOf (ρ p.2)) = (ps.toList.flatMap fun p => cellsOf (ρ' p.2)) := flatMap_congr' fun p hm => by rw [hq p hm]
    simp only [hp, e1, e2, h0]
  case makeFunc fn first caps =>
    cases fn <;> first | rfl | skip
    rename_i f
    have e : ∀ x ∈ caps.toList, (match ρ x with | .ptr n o => some (n, o) | _ => none) = (match ρ' x with | .ptr n o => some (n, o) | _ => none) := fun x hx => by rw [h x (by simp at hx; simp [hx])]
    have := mapM_congr' e
    dsimp only
    split
    · rename_i h1; have h2 := this.symm.trans h1; split
      · rename_i h3; have h4 := h3.symm.trans h2; cases h4; rfl
      · rename_i h3; have h4 := h3.symm.trans h2; cases h4
    · rename_i h1; have h2 := this.symm.trans h1; split
      · rename_i h3; have h4 := h3.symm.trans h2; cases h4
      · rfl
  case call c => exact rCall_congr h h0 hx
  case slice t x lo hi mx =>
    have e1 : ρ x = ρ' x := h x (by simp)
    have e2 : optG ρ lo = optG ρ' lo := optG_congr fun y hy => h y (by simp [hy])
    have e3 : optG ρ hi = optG ρ' hi := optG_congr fun y hy => h y (by simp [hy])
    have e4 : optG ρ mx = optG ρ' mx := optG_congr fun y hy => h y (by simp [hy])
    rw [e1, e2, e3, e4]
    exact rSlice_congr (hx rfl x (by simp))
  case load t x =>
    have e1 : ρ x = ρ' x := h x (by simp)
    rw [e1]; exact rLoad_congr (hx rfl x (by simp))
  case store t x y =>
    have e1 : ρ x = ρ' x := h x (by simp)
    have e2 : ρ y = ρ' y := h y (by simp)
    rw [e1, e2]; exact rStore_congr (hx rfl x (by simp))
  case convert a b x =>
    have e1 : ρ x = ρ' x := h x (by simp)
    have := hx rfl x (by simp)
    rw [e1]
    generalize ρ' x = y at this ⊢
    have e2 : srcG g 1 y = srcG g' 1 y := srcG_congr this
    generalize (tyI P a).tk = za
    generalize (tyI P b).tk = zb
    cases za <;> cases zb <;> first | rfl | (simp only [e2]; done) | (cases y <;> rfl)
  all_goals first | rfl | (simp_all; done)

/-- A call as an event. -/
def CallEv (P : Program) (g : Nat) (args : List AV) (nm : Nat) (H : Heap) (rd : List Nat) (v : AV) (d : List (Nat × Ent)) : Prop :=
  ∀ H2, (∀ n ∈ rd, aget H2 n = aget H n) → ∀ K : Kt, (∀ H', (∀ n, aget H' n = aget (setsH H2 d) n) → K v H') → callA P g args H2 nm K
/-- A region of drawn order, walked in the text's order. -/
def rdraw (P : Program) (all : List Oper) (id : Nat) : Nat → List Oper → Env → Heap → List EvD → (Env → Heap → Prop) → Prop
  | _, [], env, H, acc, K => indep all acc = true ∧ K env H
  | i, o :: os, env, H, acc, K => match gA all env o with
    | some true => (match res P (nmOf id i) o (ev env) (aget H) with
      | .ok ob v d => ob ∧ rdraw P all id (i + 1) os (put env o.dst v) (setsH H d) (acc ++ [⟨slots all o, fp (nmOf id i) o (ev env), o.dst, v, d⟩]) K
      | .pick b x y => rdraw P all id (i + 1) os (put env o.dst (bif b then x else y)) H (acc ++ [⟨slots all o, fp (nmOf id i) o (ev env), o.dst, bif b then x else y, []⟩]) K
      | .call g args => ∃ rd v d, CallEv P g args (nmOf id i) H rd v d ∧ rdraw P all id (i + 1) os (put env o.dst v) (setsH H d) (acc ++ [⟨slots all o, fp (nmOf id i) o (ev env) ++ rd, o.dst, v, d⟩]) K
      | _ => False)
    | some false => rdraw P all id (i + 1) os (put env o.dst (.tup [])) H (acc ++ [⟨slots all o, [], o.dst, .tup [], []⟩]) K
    | none => False
theorem ev_slots {all : List Oper} {o : Oper} {env env' : Env} (h : ∀ t ∈ slots all o, env'.get t = env.get t) : ∀ x ∈ o.op.operands, ev env' x = ev env x := by
  intro x hx
  cases x with
  | tmp t => exact h t (List.mem_append_left _ (List.mem_filterMap.2 ⟨.tmp t, by simpa using hx, rfl⟩))
  | _ => rfl
theorem gA_slots {all : List Oper} {o : Oper} {env env' : Env} (h : ∀ t ∈ slots all o, env'.get t = env.get t) : gA all env' o = gA all env o :=
  gA_congr fun t ht => h t (List.mem_append_right _ ht)
theorem put_wE (env : Env) (d : Option Nat) (v : AV) (s n : List Nat) (x : List (Nat × Ent)) : S.put env d v = setsH env (EvD.wE ⟨s, n, d, v, x⟩) := by cases d <;> rfl
theorem rdraw_evs {P : Program} {all : List Oper} {id : Nat} {K : Env → Heap → Prop} : ∀ (os : List Oper) (i : Nat) (env : Env) (H : Heap) (acc : List EvD), rdraw P all id i os env H acc K →
    ∃ evs, EvAll P (callA P) all id i os evs env H ∧ indep all (acc ++ evs) = true ∧ K (runs (evs.map EvD.wE) env) (runs (evs.map EvD.d) H)
  | [], i, env, H, acc, h => ⟨[], trivial, by simpa using h.1, h.2⟩
  | o :: os, i, env, H, acc, h => by
    have go : ∀ (e : EvD), EvOk P (callA P) all (nmOf id i) o e env H → rdraw P all id (i + 1) os (setsH env e.wE) (setsH H e.d) (acc ++ [e]) K →
        ∃ evs, EvAll P (callA P) all id i (o :: os) evs env H ∧ indep all (acc ++ evs) = true ∧ K (runs (evs.map EvD.wE) env) (runs (evs.map EvD.d) H) := by
      intro e he hr
      obtain ⟨evs, h1, h2, h3⟩ := rdraw_evs os _ _ _ _ hr
      exact ⟨e :: evs, ⟨he, h1⟩, by simpa using h2, h3⟩
    simp only [rdraw] at h
    split at h
    · rename_i hg
      split at h
      · rename_i ob v d hres
        refine go ⟨slots all o, fp (nmOf id i) o (ev env), o.dst, v, d⟩ ⟨rfl, fun env' H' h1 h2 => ⟨true, by rw [gA_slots h1, hg], fun _ K hK => ?_, by simp⟩⟩ (by rw [← put_wE]; exact h.2)
        refine res_stp ?_
        rw [res_congr (ev_slots h1) h2, hres]
        exact ⟨h.1, hK _ fun _ => rfl⟩
      · rename_i b x y hres
        refine go ⟨slots all o, fp (nmOf id i) o (ev env), o.dst, bif b then x else y, []⟩ ⟨rfl, fun env' H' h1 h2 => ⟨true, by rw [gA_slots h1, hg], fun _ K hK => ?_, by simp⟩⟩ (by rw [← put_wE]; exact h)
        refine res_stp ?_
        rw [res_congr (ev_slots h1) h2, hres]
        have := hK H' fun _ => rfl
        cases b
        · exact ⟨by simp, fun _ => this⟩
        · exact ⟨fun _ => this, by simp⟩
      · rename_i g args hres
        obtain ⟨rd, v, d, hc, hr⟩ := h
        refine go ⟨slots all o, fp (nmOf id i) o (ev env) ++ rd, o.dst, v, d⟩ ⟨rfl, fun env' H' h1 h2 => ⟨true, by rw [gA_slots h1, hg], fun _ K hK => ?_, by simp⟩⟩ ?_
        · refine res_stp ?_
          rw [res_congr (ev_slots h1) fun n hn => h2 n (List.mem_append_left _ hn), hres]
          exact hc H' (fun n hn => h2 n (List.mem_append_right _ hn)) K hK
        · rw [← put_wE]; exact hr
      · exact h.elim
    · rename_i hg
      exact go ⟨slots all o, [], o.dst, .tup [], []⟩ ⟨rfl, fun env' H' h1 h2 => ⟨false, by rw [gA_slots h1, hg], by simp, fun _ => ⟨rfl, rfl⟩⟩⟩ (by rw [← put_wE]; exact h)
    · exact h.elim
theorem W_dw {P : Program} (hm : P.follows .mixedOrders = true) {nt : Nat} {ks : List It} {env : Env} {H : Heap} {R : Env → Heap → Prop} {id : Nat} {ops : Array Oper} (hback : backB 0 ops.toList = true)
    (h : ∀ K : Env → Heap → Prop, (∀ env H, W P nt ks env H R → K env H) → rdraw P ops.toList id 0 ops.toList env H [] K) : W P nt (.code (.region id ops true) :: ks) env H R := by
  obtain ⟨evs, h1, h2, h3⟩ := rdraw_evs _ _ _ _ _ (h (fun env H => W P nt ks env H R) fun _ _ h => h)
  exact W_drawn (callA_ok P) hm h2 hback h1 h3

/-! The same by a script: what guards and calls come to is told ahead, and the check of the order is apart -/
inductive Scr where
  | g (b : Bool)
  | c (rd : List Nat) (v : AV) (d : List (Nat × Ent))
  | w (i : Nat) (v : AV)
/-- A value that the script tells, and the script behind it. -/
def sv (i : Nat) (v : AV) : List Scr → AV
  | .w j u :: _ => if j = i then u else v
  | _ => v
def sr (i : Nat) : List Scr → List Scr
  | .w j u :: r => if j = i then r else .w j u :: r
  | s => s
def rdr (P : Program) (all : List Oper) (id : Nat) : Nat → List Oper → Env → Heap → List Scr → (Env → Heap → Prop) → Prop
  | _, [], env, H, _, K => K env H
  | i, o :: os, env, H, scr, K => match o.guard with
    | none => (match res P (nmOf id i) o (ev env) (aget H) with
      | .ok ob v d => ob ∧ v = sv i v scr ∧ rdr P all id (i + 1) os (put env o.dst (sv i v scr)) (setsH H d) (sr i scr) K
      | .pick b x y => (bif b then x else y) = sv i (bif b then x else y) scr ∧ rdr P all id (i + 1) os (put env o.dst (sv i (bif b then x else y) scr)) H (sr i scr) K
      | .call g args => match scr with
        | .c rd v d :: scr' => CallEv P g args (nmOf id i) H rd v d ∧ rdr P all id (i + 1) os (put env o.dst v) (setsH H d) scr' K
        | _ => False
      | _ => False)
    | some _ => match scr with
      | .g true :: scr => gA all env o = some true ∧ (match res P (nmOf id i) o (ev env) (aget H) with
        | .ok ob v d => ob ∧ v = sv i v scr ∧ rdr P all id (i + 1) os (put env o.dst (sv i v scr)) (setsH H d) (sr i scr) K
        | .pick b x y => (bif b then x else y) = sv i (bif b then x else y) scr ∧ rdr P all id (i + 1) os (put env o.dst (sv i (bif b then x else y) scr)) H (sr i scr) K
        | .call g args => match scr with
          | .c rd v d :: scr' => CallEv P g args (nmOf id i) H rd v d ∧ rdr P all id (i + 1) os (put env o.dst v) (setsH H d) scr' K
          | _ => False
        | _ => False)
      | .g false :: scr => gA all env o = some false ∧ rdr P all id (i + 1) os (put env o.dst (.tup [])) H scr K
      | _ => False
def drawOk (P : Program) (all : List Oper) (id : Nat) : Nat → List Oper → Env → Heap → List Scr → List EvD → Bool
  | _, [], _, _, _, acc => indep all acc
  | i, o :: os, env, H, scr, acc => match o.guard with
    | none => (match res P (nmOf id i) o (ev env) (aget H) with
      | .ok _ v d => drawOk P all id (i + 1) os (put env o.dst (sv i v scr)) (setsH H d) (sr i scr) (acc ++ [⟨slots all o, fp (nmOf id i) o (ev env), o.dst, sv i v scr, d⟩])
      | .pick b x y => drawOk P all id (i + 1) os (put env o.dst (sv i (bif b then x else y) scr)) H (sr i scr) (acc ++ [⟨slots all o, fp (nmOf id i) o (ev env), o.dst, sv i (bif b then x else y) scr, []⟩])
      | .call _ _ => match scr with
        | .c rd v d :: scr' => drawOk P all id (i + 1) os (put env o.dst v) (setsH H d) scr' (acc ++ [⟨slots all o, fp (nmOf id i) o (ev env) ++ rd, o.dst, v, d⟩])
        | _ => false
      | _ => false)
    | some _ => match scr with
      | .g true :: scr => (match res P (nmOf id i) o (ev env) (aget H) with
        | .ok _ v d => drawOk P all id (i + 1) os (put env o.dst (sv i v scr)) (setsH H d) (sr i scr) (acc ++ [⟨slots all o, fp (nmOf id i) o (ev env), o.dst, sv i v scr, d⟩])
        | .pick b x y => drawOk P all id (i + 1) os (put env o.dst (sv i (bif b then x else y) scr)) H (sr i scr) (acc ++ [⟨slots all o, fp (nmOf id i) o (ev env), o.dst, sv i (bif b then x else y) scr, []⟩])
        | .call _ _ => match scr with
          | .c rd v d :: scr' => drawOk P all id (i + 1) os (put env o.dst v) (setsH H d) scr' (acc ++ [⟨slots all o, fp (nmOf id i) o (ev env) ++ rd, o.dst, v, d⟩])
          | _ => false
        | _ => false)
      | .g false :: scr => drawOk P all id (i + 1) os (put env o.dst (.tup [])) H scr (acc ++ [⟨slots all o, [], o.dst, .tup [], []⟩])
      | _ => false
theorem rdr_draw {P : Program} {all : List Oper} {id : Nat} {K : Env → Heap → Prop} : ∀ (os : List Oper) (i : Nat) (env : Env) (H : Heap) (scr : List Scr) (acc : List EvD),
    drawOk P all id i os env H scr acc = true → rdr P all id i os env H scr K → rdraw P all id i os env H acc K
  | [], _, _, _, _, _, h1, h2 => ⟨h1, h2⟩
  | o :: os, i, env, H, scr, acc, h1, h2 => by
    simp only [drawOk] at h1
    simp only [rdr] at h2
    simp only [rdraw]
    cases hg : o.guard with
    | none =>
      rw [hg] at h1 h2
      have : gA all env o = some true := by simp [gA, hg]
      rw [this]
      simp only at h1 h2 ⊢
      generalize res P (nmOf id i) o (ev env) (aget H) = r at h1 h2
      cases r <;> simp only at h1 h2 ⊢
      case ok =>
        have q := rdr_draw _ _ _ _ _ _ h1 h2.2.2
        rw [← h2.2.1] at q
        exact ⟨h2.1, q⟩
      case pick =>
        have q := rdr_draw _ _ _ _ _ _ h1 h2.2
        rw [← h2.1] at q
        exact q
      case call =>
        split at h2
        · simp only at h1
          exact ⟨_, _, _, h2.1, rdr_draw _ _ _ _ _ _ h1 h2.2⟩
        · exact h2.elim
    | some q =>
      rw [hg] at h1 h2
      simp only at h1 h2
      split at h2
      · rw [h2.1]
        have h2 := h2.2
        simp only at h1 h2 ⊢
        generalize res P (nmOf id i) o (ev env) (aget H) = r at h1 h2
        cases r <;> simp only at h1 h2 ⊢
        case ok =>
          have q := rdr_draw _ _ _ _ _ _ h1 h2.2.2
          rw [← h2.2.1] at q
          exact ⟨h2.1, q⟩
        case pick =>
          have q := rdr_draw _ _ _ _ _ _ h1 h2.2
          rw [← h2.1] at q
          exact q
        case call =>
          split at h2
          · simp only at h1
            exact ⟨_, _, _, h2.1, rdr_draw _ _ _ _ _ _ h1 h2.2⟩
          · exact h2.elim
      · rw [h2.1]
        exact rdr_draw _ _ _ _ _ _ h1 h2.2
      · exact h2.elim
theorem W_ds {P : Program} (hm : P.follows .mixedOrders = true) {nt : Nat} {ks : List It} {env : Env} {H : Heap} {R : Env → Heap → Prop} {id : Nat} {ops : Array Oper} (scr : List Scr) (hback : backB 0 ops.toList = true)
    (hok : drawOk P ops.toList id 0 ops.toList env H scr [] = true)
    (h : ∀ K : Env → Heap → Prop, (∀ env H, W P nt ks env H R → K env H) → rdr P ops.toList id 0 ops.toList env H scr K) : W P nt (.code (.region id ops true) :: ks) env H R :=
  W_dw hm hback fun K hK => rdr_draw _ _ _ _ _ _ hok (h K hK)
/-- The same, with calls kept shut. -/
def CallKd (P : Program) (all : List Oper) (id i : Nat) (os : List Oper) (dst : Option Tmp) (env : Env) (scr : List Scr) (K : Env → Heap → Prop) (g : Nat) (args : List AV) (H : Heap) (rd : List Nat) (v : AV) (d : List (Nat × Ent)) : Prop :=
  CallEv P g args (nmOf id i) H rd v d ∧ rdr P all id (i + 1) os (put env dst v) (setsH H d) scr K
theorem rdr_nil {P : Program} {all : List Oper} {id i : Nat} {env : Env} {H : Heap} {scr : List Scr} {K : Env → Heap → Prop} : rdr P all id i [] env H scr K = K env H := rfl
/-- An operation's outcome, kept shut till it is known. -/
def Rd (P : Program) (all : List Oper) (id i : Nat) (os : List Oper) (d : Option Tmp) (env : Env) (H : Heap) (scr : List Scr) (K : Env → Heap → Prop) : Res → Prop
  | .ok ob v d' => ob ∧ v = sv i v scr ∧ rdr P all id (i + 1) os (put env d (sv i v scr)) (setsH H d') (sr i scr) K
  | .pick b x y => (bif b then x else y) = sv i (bif b then x else y) scr ∧ rdr P all id (i + 1) os (put env d (sv i (bif b then x else y) scr)) H (sr i scr) K
  | .call g args => match scr with
    | .c rd v d' :: scr' => CallKd P all id i os d env scr' K g args H rd v d'
    | _ => False
  | _ => False
section
variable {P : Program} {all : List Oper} {id i : Nat} {o : Oper} {os : List Oper} {env : Env} {H : Heap} {scr : List Scr} {K : Env → Heap → Prop} {d : Option Tmp}
theorem Rd_ok {ob : Prop} {v : AV} {d' : List (Nat × Ent)} : Rd P all id i os d env H scr K (.ok ob v d') = (ob ∧ v = sv i v scr ∧ rdr P all id (i + 1) os (put env d (sv i v scr)) (setsH H d') (sr i scr) K) := hardEq rfl
theorem Rd_pick {b : Bool} {x y : AV} : Rd P all id i os d env H scr K (.pick b x y) = ((bif b then x else y) = sv i (bif b then x else y) scr ∧ rdr P all id (i + 1) os (put env d (sv i (bif b then x else y) scr)) H (sr i scr) K) := hardEq rfl
theorem sv_n {v : AV} : sv i v [] = v := by unfold sv; rfl
theorem sv_g {v : AV} {b : Bool} {r : List Scr} : sv i v (.g b :: r) = v := by unfold sv; rfl
theorem sv_c {v x : AV} {rd : List Nat} {dl : List (Nat × Ent)} {r : List Scr} : sv i v (.c rd x dl :: r) = v := by unfold sv; rfl
theorem sv_w {v u : AV} {j : Nat} {r : List Scr} : sv i v (.w j u :: r) = if j = i then u else v := by unfold sv; rfl
theorem sr_n : sr i [] = [] := by unfold sr; rfl
theorem sr_g {b : Bool} {r : List Scr} : sr i (.g b :: r) = .g b :: r := by unfold sr; rfl
theorem sr_c {x : AV} {rd : List Nat} {dl : List (Nat × Ent)} {r : List Scr} : sr i (.c rd x dl :: r) = .c rd x dl :: r := by unfold sr; rfl
theorem sr_w {u : AV} {j : Nat} {r : List Scr} : sr i (.w j u :: r) = if j = i then r else .w j u :: r := by unfold sr; rfl
theorem Rd_call {g : Nat} {args : List AV} {rd : List Nat} {v : AV} {d' : List (Nat × Ent)} : Rd P all id i os d env H (.c rd v d' :: scr) K (.call g args) = CallKd P all id i os d env scr K g args H rd v d' := hardEq rfl
theorem rdr_cons : rdr P all id i (o :: os) env H scr K = (match o.guard with
    | none => Rd P all id i os o.dst env H scr K (res P (nmOf id i) o (ev env) (aget H))
    | some _ => match scr with
      | .g true :: scr => gA all env o = some true ∧ Rd P all id i os o.dst env H scr K (res P (nmOf id i) o (ev env) (aget H))
      | .g false :: scr => gA all env o = some false ∧ rdr P all id (i + 1) os (put env o.dst (.tup [])) H scr K
      | _ => False) := by
  apply hardEq
  simp only [rdr]
  cases hg : o.guard with
  | none =>
    simp only
    cases res P (nmOf id i) o (ev env) (aget H) with
    | call g args =>
      simp only [Rd]
      cases scr with
      | nil => rfl
      | cons x r => cases x <;> rfl
    | _ => rfl
  | some p =>
    simp only
    cases scr with
    | nil => rfl
    | cons x r => cases x with
      | c _ _ _ => rfl
      | w _ _ => rfl
      | g b => cases b with
        | false => rfl
        | true =>
          simp only
          cases res P (nmOf id i) o (ev env) (aget H) with
          | call g args =>
            simp only [Rd]
            cases r with
            | nil => rfl
            | cons x r => cases x <;> rfl
          | _ => rfl
end

/-! A call's changes, told without the memory that they change -/
def backOwnD (μ : List (Nat × (Nat × Nat))) (ρ : Mu) (H1 : Heap) : Heap → List (Nat × Ent)
  | [] => []
  | (i, e) :: r => (if e.isOwn then match aget μ i with
      | some (j, _) => [(j, match aget H1 i with | some e => renE ρ e | none => .dead)]
      | none => []
    else []) ++ backOwnD μ ρ H1 r
def backNewD (ρ : Mu) (nm : Nat) : Heap → List (Nat × Ent)
  | [] => []
  | (i, e) :: r => (if 100 ≤ i ∧ i < 108 then [(nm + (i - 100), renE ρ e)] else []) ++ backNewD ρ nm r
def afterD (μ : List (Nat × (Nat × Nat))) (nm : Nat) (H0 H1 : Heap) : List (Nat × Ent) := backOwnD μ (mu1 μ nm) H1 H0 ++ backNewD (mu1 μ nm) nm H1
theorem backOwnD_eq (μ : List (Nat × (Nat × Nat))) (ρ : Mu) (H1 : Heap) : ∀ (H0 H : Heap), backOwn μ ρ H1 H0 H = setsH H (backOwnD μ ρ H1 H0)
  | [], _ => rfl
  | (i, e) :: r, H => by
    simp only [backOwn, backOwnD]
    rw [backOwnD_eq μ ρ H1 r]
    cases e.isOwn
    · rfl
    · cases aget μ i <;> rfl
theorem backNewD_eq (ρ : Mu) (nm : Nat) : ∀ (H1 H : Heap), backNew ρ nm H1 H = setsH H (backNewD ρ nm H1)
  | [], _ => rfl
  | (i, e) :: r, H => by
    simp only [backNew, backNewD]
    rw [backNewD_eq ρ nm r]
    split <;> rfl
theorem afterD_eq (μ : List (Nat × (Nat × Nat))) (nm : Nat) (H H0 H1 : Heap) : afterH μ nm H H0 H1 = setsH H (afterD μ nm H0 H1) := by
  unfold afterH afterD
  rw [backNewD_eq, backOwnD_eq, setsH_append]
def rdOf (nm : Nat) (μ : List (Nat × (Nat × Nat))) : List Nat := [nm, nm + 1, nm + 2, nm + 3, nm + 4, nm + 5, nm + 6, nm + 7] ++ μ.map fun p => p.2.1
theorem mem_of_aget' {β : Type} {l : List (Nat × β)} {n : Nat} {e : β} (h : aget l n = some e) : (n, e) ∈ l := mem_of_aget h
theorem aget_ne_none {β : Type} : ∀ {l : List (Nat × β)} {n : Nat} {e : β}, (n, e) ∈ l → aget l n ≠ none
  | (k, x) :: r, n, e, h => by
    simp only [aget]
    split
    · simp
    · rename_i hk
      simp only [List.mem_cons, Prod.mk.injEq] at h
      rcases h with ⟨rfl, _⟩ | h
      · exact absurd rfl hk
      · exact aget_ne_none h
theorem freeB_congr {H H2 : Heap} {nm : Nat} {μ : List (Nat × (Nat × Nat))} (h : freeB H nm = true) (e : ∀ n ∈ rdOf nm μ, aget H2 n = aget H n) : freeB H2 nm = true := by
  refine List.all_eq_true.2 fun p hp => ?_
  have hne := aget_ne_none (n := p.1) (e := p.2) hp
  rcases Nat.lt_or_ge p.1 nm with h1 | h1
  · simp [h1]
  · rcases Nat.lt_or_ge p.1 (nm + 8) with h2 | h2
    · exfalso
      have hmem : p.1 ∈ rdOf nm μ := by
        refine List.mem_append_left _ ?_
        simp only [List.mem_cons, List.not_mem_nil, or_false]
        omega
      refine hne ?_
      rw [e _ hmem]
      have : p.1 = nm + (p.1 - nm) := by omega
      rw [this]
      exact free_get h (by omega)
    · simp [h2]
theorem matchH_congr {μ : List (Nat × (Nat × Nat))} {H H2 : Heap} (e : ∀ p ∈ μ, aget H2 p.2.1 = aget H p.2.1) : ∀ {H0 : Heap}, matchH μ H H0 → matchH μ H2 H0
  | [], _ => trivial
  | (i, x) :: r, h => by
    refine ⟨⟨h.1.1, ?_⟩, matchH_congr e h.2⟩
    have := h.1.2
    cases hm : aget μ i with
    | none => rw [hm] at this; exact this
    | some q =>
      obtain ⟨j, o⟩ := q
      rw [hm] at this
      simp only at this ⊢
      rw [e _ (mem_of_aget' hm)]
      exact this
theorem callEv_of {P : Program} {g : Nat} {args args0 : List AV} {nm : Nat} {H H0 H1 : Heap} {r : AV} {μ : List (Nat × (Nat × Nat))} (hfn : Fn P g H0 args0 fun r' H' => r' = r ∧ H' = H1)
    (hs : args.all AV.fits = true ∧ args = args0.map (renA (aget μ)) ∧ matchH μ H H0 ∧ apartB μ H0 = true ∧ freeB H nm = true ∧ domB μ H0 = true ∧ nodupB H0 = true ∧ 100 ≤ nm ∧ nodupB H1 = true) :
    CallEv P g args nm H (rdOf nm μ) (renV (mu1 μ nm) r) (afterD μ nm H0 H1) := by
  obtain ⟨a1, a2, a3, a4, a5, a6, a7, a8, a9⟩ := hs
  intro H2 he K hK
  refine ⟨H0, args0, _, μ, hfn, a1, a2, matchH_congr (fun p hp => he _ ?_) a3, a4, freeB_congr a5 he, a6, a7, a8, ?_⟩
  · exact List.mem_append_right _ (List.mem_map.2 ⟨p, hp, rfl⟩)
  · rintro _ _ ⟨rfl, rfl⟩
    exact ⟨a9, by rw [afterD_eq]; exact hK _ fun _ => rfl⟩
theorem callKd_of {P : Program} {all os : List Oper} {id i g : Nat} {d : Option Tmp} {env : Env} {scr : List Scr} {K : Env → Heap → Prop} {args args0 : List AV} {H H0 H1 : Heap} {r : AV} {μ : List (Nat × (Nat × Nat))}
    (hfn : Fn P g H0 args0 fun r' H' => r' = r ∧ H' = H1)
    (hs : args.all AV.fits = true ∧ args = args0.map (renA (aget μ)) ∧ matchH μ H H0 ∧ apartB μ H0 = true ∧ freeB H (nmOf id i) = true ∧ domB μ H0 = true ∧ nodupB H0 = true ∧ 100 ≤ nmOf id i ∧ nodupB H1 = true)
    (h : rdr P all id (i + 1) os (S.put env d (renV (mu1 μ (nmOf id i)) r)) (setsH H (afterD μ (nmOf id i) H0 H1)) scr K) :
    CallKd P all id i os d env scr K g args H (rdOf (nmOf id i) μ) (renV (mu1 μ (nmOf id i)) r) (afterD μ (nmOf id i) H0 H1) := ⟨callEv_of hfn hs, h⟩

end Go.Proofs.Ytbcnkfkmonpdeaa.S
