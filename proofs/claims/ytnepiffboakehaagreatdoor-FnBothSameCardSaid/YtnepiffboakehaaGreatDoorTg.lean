/- The symbolic heap: a region of drawn order with one call whose outcome is only known to exist. Own work of this claim. -/
import Derived.Test.YtnepiffboakehaaGreatDoorA3
namespace Go.Proofs.YtnepiffboakehaaGreatDoor.S
set_option linter.all false
open Go
variable {D : Cx}

/-- No operation behind the call. -/
def junkE : EvD := ⟨[], [], none, .any, []⟩
section
variable {P : Program} {G : Nat → Prop} {hp : HP} {nt : Nat}

theorem listed_set {listed : Array Bool} {i : Nat} (hi2 : i < listed.size) (j : Nat) : (listed.setIfInBounds i true).getD j false = (listed.getD j false || j == i) := by
  by_cases hj : i = j
  · subst hj; simp [hi2]
  · rw [getD_set_ne false hj]
    have : (j == i) = false := by simpa using fun h => hj h.symm
    rw [this, Bool.or_false]
theorem listed_cl {ops : Array Oper} {listed : Array Bool} {i : Nat} {o : Oper} (ho' : ops.toList[i]? = some o) (hi2 : i < listed.size) (hpre' : ∀ d ∈ direct o, listed.getD d false = true)
    (hcl : ∀ j o, ops.toList[j]? = some o → listed.getD j false = true → ∀ d ∈ direct o, listed.getD d false = true) :
    ∀ j o', ops.toList[j]? = some o' → (listed.setIfInBounds i true).getD j false = true → ∀ d ∈ direct o', (listed.setIfInBounds i true).getD d false = true := by
  intro j o' ho2 hj d hdm
  rw [listed_set hi2] at hj ⊢
  by_cases hji : j = i
  · subst hji
    rw [ho'] at ho2; cases ho2
    simp [hpre' d hdm]
  · have : listed.getD j false = true := by simpa [hji] using hj
    simp [hcl j o' ho2 this d hdm]
theorem listed_L {ops : Array Oper} {evs : List EvD} {listed : Array Bool} {i : Nat} {o : Oper} {e : EvD} (hind : indep ops.toList evs = true) (ho' : ops.toList[i]? = some o) (hei : evs[i]? = some e) (hi2 : i < listed.size)
    (hLi : listed.getD i false = false) (hpre' : ∀ d ∈ direct o, listed.getD d false = true)
    (hcl : ∀ j o, ops.toList[j]? = some o → listed.getD j false = true → ∀ d ∈ direct o, listed.getD d false = true) :
    ∀ j b, evs[j]? = some b → j ≠ i → (j < i → clash b e = true) → (i < j → clash e b = true) → listed.getD j false = decide (j < i) := by
  have hset := listed_set hi2
  have hcl' := listed_cl ho' hi2 hpre' hcl
  intro j b hb hne c1 c2
  rcases Nat.lt_or_gt_of_ne hne with h | h
  · have hbit := indep_get hind hei h hb (c1 h)
    have := ancT_closed (S := fun j => (listed.setIfInBounds i true).getD j false) ops.toList [] (fun j o' h1 h2 => hcl' j o' h1 (by simpa using h2)) (by simp) i j (by simp only [hset]; simp) hbit
    simp only [hset] at this
    simp only [h, decide_true]
    simpa [hne] using this
  · have hbit := indep_get hind hb h hei (c2 h)
    have hn : ¬ j < i := by omega
    simp only [hn, decide_false]
    cases hlj : listed.getD j false with
    | false => rfl
    | true =>
      have := ancT_closed (S := fun j => listed.getD j false) ops.toList [] (fun j o' h1 h2 => hcl j o' h1 (by simpa using h2)) (by simp) j i hlj hbit
      rw [hLi] at this; cases this
section
variable {evs : List EvD} {listed : Array Bool} {i : Nat} {e : EvD} {env0 env : Env} {H0 H : Heap}
theorem listed_rdE (hL : ∀ j b, evs[j]? = some b → j ≠ i → (j < i → clash b e = true) → (i < j → clash e b = true) → listed.getD j false = decide (j < i)) (hLi : listed.getD i false = false)
    (he : ∀ t, aget env t = aget (appS (fun j => listed.getD j false) 0 (evs.map EvD.wE) env0) t) : ∀ t ∈ e.sl, env.get t = Env.get (runs ((evs.map EvD.wE).take i) env0) t := by
  intro t ht
  simp only [Env.get]
  rw [he, ← Nat.sub_zero i, ← appS_lt]
  congr 1
  refine appS_agree _ 0 _ _ rfl fun j w' hj hk => ?_
  simp only [Nat.zero_add]
  rw [List.getElem?_map] at hj
  obtain ⟨b, hb, rfl⟩ := Option.map_eq_some_iff.1 hj
  have hbd := keyed_wE hk
  by_cases hji : j = i
  · subst hji; simp only [hLi]; simp
  · refine hL j b hb hji (fun _ => ?_) (fun _ => ?_)
    · simp [clash, hbd, ht]
    · simp [clash, hbd, ht]
theorem listed_rdH (hL : ∀ j b, evs[j]? = some b → j ≠ i → (j < i → clash b e = true) → (i < j → clash e b = true) → listed.getD j false = decide (j < i)) (hLi : listed.getD i false = false)
    (hh : ∀ n, aget H n = aget (appS (fun j => listed.getD j false) 0 (evs.map EvD.d) H0) n) : ∀ n ∈ e.nr, aget H n = aget (runs ((evs.map EvD.d).take i) H0) n := by
  intro n hn
  rw [hh, ← Nat.sub_zero i, ← appS_lt]
  refine appS_agree _ 0 _ _ rfl fun j w' hj hk => ?_
  simp only [Nat.zero_add]
  rw [List.getElem?_map] at hj
  obtain ⟨b, hb, rfl⟩ := Option.map_eq_some_iff.1 hj
  obtain ⟨p, hp1, hp2⟩ := List.any_eq_true.1 hk
  have hp2 : p.1 = n := by simpa using hp2
  by_cases hji : j = i
  · subst hji; simp only [hLi]; simp
  · refine hL j b hb hji (fun _ => ?_) (fun _ => ?_)
    · have : b.d.any (fun p => e.nr.contains p.1 || keyed p.1 e.d) = true := List.any_eq_true.2 ⟨p, hp1, by simp [hp2, hn]⟩
      unfold clash; rw [this]; simp
    · have : b.d.any (fun p => e.nr.contains p.1) = true := List.any_eq_true.2 ⟨p, hp1, by simp [hp2, hn]⟩
      unfold clash; rw [this]; simp
theorem listed_stE (hei : evs[i]? = some e) (hi2 : i < listed.size)
    (hL : ∀ j b, evs[j]? = some b → j ≠ i → (j < i → clash b e = true) → (i < j → clash e b = true) → listed.getD j false = decide (j < i)) (hLi : listed.getD i false = false)
    (he : ∀ t, aget env t = aget (appS (fun j => listed.getD j false) 0 (evs.map EvD.wE) env0) t) :
    ∀ (env' : Env), (∀ t, aget env' t = aget (setsH env e.wE) t) → ∀ t, aget env' t = aget (appS (fun j => (listed.setIfInBounds i true).getD j false) 0 (evs.map EvD.wE) env0) t := by
  intro env' h t
  have : (fun j => (listed.setIfInBounds i true).getD j false) = fun j => (listed.getD j false || j == i) := funext (listed_set hi2)
  rw [this, appS_step (i := i) (w := e.wE) (by simp [hei]) hLi ?_ t, h]
  · exact aget_setsH_congr (he t)
  · intro k hk j w' hj hk' hji
    rw [List.getElem?_map] at hj
    obtain ⟨b, hb, rfl⟩ := Option.map_eq_some_iff.1 hj
    have hbd := keyed_wE hk'
    have hed := keyed_wE hk
    refine hL j b hb hji (fun _ => ?_) (fun _ => ?_)
    · simp [clash, hbd, hed]
    · simp [clash, hbd, hed]
theorem listed_stH (hei : evs[i]? = some e) (hi2 : i < listed.size)
    (hL : ∀ j b, evs[j]? = some b → j ≠ i → (j < i → clash b e = true) → (i < j → clash e b = true) → listed.getD j false = decide (j < i)) (hLi : listed.getD i false = false)
    (hh : ∀ n, aget H n = aget (appS (fun j => listed.getD j false) 0 (evs.map EvD.d) H0) n) :
    ∀ (H' : Heap), (∀ n, aget H' n = aget (setsH H e.d) n) → ∀ n, aget H' n = aget (appS (fun j => (listed.setIfInBounds i true).getD j false) 0 (evs.map EvD.d) H0) n := by
  intro H' h t
  have : (fun j => (listed.setIfInBounds i true).getD j false) = fun j => (listed.getD j false || j == i) := funext (listed_set hi2)
  rw [this, appS_step (i := i) (w := e.d) (by simp [hei]) hLi ?_ t, h]
  · exact aget_setsH_congr (hh t)
  · intro k hk j w' hj hk' hji
    rw [List.getElem?_map] at hj
    obtain ⟨b, hb, rfl⟩ := Option.map_eq_some_iff.1 hj
    obtain ⟨p, hp1, hp2⟩ := List.any_eq_true.1 hk
    obtain ⟨q, hq1, hq2⟩ := List.any_eq_true.1 hk'
    have hp2 : p.1 = k := by simpa using hp2
    have hq2 : q.1 = k := by simpa using hq2
    refine hL j b hb hji (fun _ => ?_) (fun _ => ?_)
    · have : b.d.any (fun p => e.nr.contains p.1 || keyed p.1 e.d) = true := List.any_eq_true.2 ⟨q, hq1, by rw [hq2, hk]; simp⟩
      unfold clash; rw [this]; simp
    · have : e.d.any (fun p => b.nr.contains p.1 || keyed p.1 b.d) = true := List.any_eq_true.2 ⟨p, hp1, by rw [hp2, hk']; simp⟩
      unfold clash; rw [this]; simp
end
theorem listed_count {ops : Array Oper} {listed : Array Bool} {i fuel : Nat} (hi2 : i < listed.size) (hLi : listed.getD i false = false) (hcount : listed.toList.count false = fuel + 1) : (listed.setIfInBounds i true).toList.count false = fuel := by
  have hi3 : i < listed.toList.length := by simpa using hi2
  have hg : listed.toList[i] = false := by
    have := hLi
    simp [Array.getD, hi2] at this
    simpa using this
  rw [Array.toList_setIfInBounds, List.count_set hi3, hg, hcount]
  simp

/-- Regions of drawn order: ops in S0 are done already, ops in T0 are taken by their own rule (and end this induction), ops behind T0 are not reached. -/
theorem draw_gen {call : CallT} (hc : CallOk P call) {ops : Array Oper} (hd : dstOk nt ops = true) {id : Nat} {evs : List EvD} {env0 : Env} {H0 : Heap} {Q : Exit → Act → World → Prop} (S0 T0 : Nat → Bool)
    (hlen : ops.toList.length = evs.length)
    (hev : ∀ j o e, ops.toList[j]? = some o → evs[j]? = some e → S0 j = false → T0 j = false → (∀ m, T0 m = true → ((ancT ops.toList []).getD j 0).testBit m = false) →
      EvOk P call ops.toList (nmOf id j) o e (runs ((evs.map EvD.wE).take j) env0) (runs ((evs.map EvD.d).take j) H0))
    (hind : indep ops.toList evs = true) (hback : backB 0 ops.toList = true)
    (hsp : ∀ (j : Nat) (o : Oper) (e : EvD) (fuel : Nat) (listed : Array Bool) (ν : Nm) (env : Env) (H : Heap) (a : Act) (w : World), ops.toList[j]? = some o → evs[j]? = some e → T0 j = true → listed.size = ops.size → listed.toList.count false = fuel + 1 →
      (∀ j o, ops.toList[j]? = some o → listed.getD j false = true → ∀ d ∈ direct o, listed.getD d false = true) → (∀ m, T0 m = true → listed.getD m false = false) → listed.getD j false = false →
      (∀ d ∈ direct o, listed.getD d false = true) →
      (∀ t ∈ e.sl, Env.get env t = Env.get (runs ((evs.map EvD.wE).take j) env0) t) → (∀ n ∈ e.nr, aget H n = aget (runs ((evs.map EvD.d).take j) H0) n) →
      (∀ t, aget env t = aget (appS (fun j => listed.getD j false) 0 (evs.map EvD.wE) env0) t) → (∀ n, aget H n = aget (appS (fun j => listed.getD j false) 0 (evs.map EvD.d) H0) n) →
      St G hp nt ν env H a w → wpOp P ops Q j (wpAny P .any ops Q fuel (listed.setIfInBounds j true)) a w)
    (hQ : (∀ j, j < ops.size → T0 j = false) → ∀ ν a w, St G hp nt ν (runs (evs.map EvD.wE) env0) (runs (evs.map EvD.d) H0) a w → Q .normal a w) :
    ∀ (fuel : Nat) (listed : Array Bool) (ν : Nm) (env : Env) (H : Heap) (a : Act) (w : World), listed.size = ops.size → listed.toList.count false = fuel →
      (∀ j o, ops.toList[j]? = some o → listed.getD j false = true → ∀ d ∈ direct o, listed.getD d false = true) →
      (∀ j, S0 j = true → listed.getD j false = true) → (∀ m, T0 m = true → listed.getD m false = false) →
      (∀ t, aget env t = aget (appS (fun j => listed.getD j false) 0 (evs.map EvD.wE) env0) t) → (∀ n, aget H n = aget (appS (fun j => listed.getD j false) 0 (evs.map EvD.d) H0) n) →
      St G hp nt ν env H a w → wpAny P .any ops Q fuel listed a w := by
  have fin : ∀ (listed : Array Bool) (ν : Nm) (env : Env) (H : Heap) (a : Act) (w : World), listed.size = ops.size → (∀ j, j < ops.size → listed.getD j false = true) → (∀ m, T0 m = true → listed.getD m false = false) →
      (∀ t, aget env t = aget (appS (fun j => listed.getD j false) 0 (evs.map EvD.wE) env0) t) → (∀ n, aget H n = aget (appS (fun j => listed.getD j false) 0 (evs.map EvD.d) H0) n) →
      St G hp nt ν env H a w → Q .normal a w := by
    intro listed ν env H a w hsz hl hT he hh st
    have all : ∀ {β : Type} (f : EvD → List (Nat × β)) (s : List (Nat × β)) (k : Nat), aget (appS (fun j => listed.getD j false) 0 (evs.map f) s) k = aget (runs (evs.map f) s) k := by
      intro β f s k
      have e : runs (evs.map f) s = appS (fun j => decide (j < evs.length)) 0 (evs.map f) s := by rw [appS_lt, Nat.sub_zero, List.take_of_length_le (by simp)]
      rw [e]
      refine appS_agree _ 0 s s rfl fun j w' hj _ => ?_
      have hlt : j < evs.length := by
        have := (List.getElem?_eq_some_iff.1 hj).1
        simpa using this
      simp only [Nat.zero_add, hlt, decide_true]
      exact hl j (by simpa [← hlen] using hlt)
    refine hQ (fun j hj => ?_) ν a w (st.congr (fun t => by rw [he, all]) (fun n => by rw [hh, all]))
    cases e : T0 j with
    | false => rfl
    | true => have := hT j e; rw [hl j hj] at this; cases this
  intro fuel
  induction fuel with
  | zero =>
    intro listed ν env H a w hsz hcount hcl hS hT he hh st
    have hl : ∀ j, j < ops.size → listed.getD j false = true := by
      intro j hj
      have hj' : j < listed.toList.length := by simpa [hsz] using hj
      have hne : false ∉ listed.toList := List.count_eq_zero.1 hcount
      have : listed.toList[j] ≠ false := fun e => hne (e ▸ List.getElem_mem hj')
      have hj2 : j < listed.size := by omega
      simpa [Array.getD, hj2] using this
    refine ⟨?_, fin listed ν env H a w hsz hl hT he hh st⟩
    cases hr : Region.ready .any ops listed with
    | nil => rfl
    | cons x xs =>
      have hx : x ∈ Region.ready .any ops listed := by rw [hr]; simp
      obtain ⟨h1, o, ho, _⟩ := mem_ready.1 hx
      have hlt : x < ops.size := (Array.getElem?_eq_some_iff.1 ho).1
      have := hl x hlt
      have hx2 : x < listed.size := by omega
      simp [Array.getD, hx2] at h1 this
      rw [this] at h1; cases h1
  | succ fuel ih =>
    intro listed ν env H a w hsz hcount hcl hS hT he hh st
    refine ⟨fun hr => fin listed ν env H a w hsz ?_ hT he hh st, fun i hi => ?_⟩
    · intro j
      induction j using Nat.strongRecOn with
      | _ j ihj =>
        intro hj
        cases hlj : listed.getD j false with
        | true => rfl
        | false =>
          have hj2 : j < listed.size := by omega
          obtain ⟨o, ho⟩ : ∃ o, ops[j]? = some o := ⟨ops[j], Array.getElem?_eq_some_iff.2 ⟨hj, rfl⟩⟩
          have : j ∈ Region.ready .any ops listed := by
            refine mem_ready.2 ⟨by simpa [Array.getD, hj2] using hlj, o, ho, fun e hem hb => ?_⟩
            have hmem : e.on ∈ direct o := List.mem_map.2 ⟨e, List.mem_filter.2 ⟨by simpa using hem, hb⟩, rfl⟩
            have hlt := backB_get hback (j := j) (o := o) (by simpa using ho) _ hmem
            exact ihj e.on (by omega) (by omega)
          rw [hr] at this; simp at this
    · obtain ⟨h1, o, ho, hpre⟩ := mem_ready.1 hi
      have hlt : i < ops.size := (Array.getElem?_eq_some_iff.1 ho).1
      have hi2 : i < listed.size := by omega
      have hLi : listed.getD i false = false := by simpa [Array.getD, hi2] using h1
      have ho' : ops.toList[i]? = some o := by simpa using ho
      have hie : i < evs.length := by rw [← hlen]; simpa using hlt
      obtain ⟨e, hei⟩ : ∃ e, evs[i]? = some e := ⟨evs[i], by simp [hie]⟩
      have hpre' : ∀ d ∈ direct o, listed.getD d false = true := by
        intro d hdm
        obtain ⟨ed, hed, rfl⟩ := List.mem_map.1 hdm
        obtain ⟨hem, hb⟩ := List.mem_filter.1 hed
        exact hpre ed (by simpa using hem) hb
      have hset := listed_set hi2
      have hcl' := listed_cl ho' hi2 hpre' hcl
      have hL := listed_L hind ho' hei hi2 hLi hpre' hcl
      have rdE := listed_rdE hL hLi he
      have rdH := listed_rdH hL hLi hh
      cases hTi : T0 i with
      | true => exact hsp i o e fuel listed ν env H a w ho' hei hTi hsz hcount hcl hT hLi hpre' rdE rdH he hh st
      | false =>
      have hSi : S0 i = false := by
        cases hs : S0 i with
        | false => rfl
        | true => have := hS i hs; rw [hLi] at this; cases this
      have hbt : ∀ m, T0 m = true → ((ancT ops.toList []).getD i 0).testBit m = false := by
        intro m hm
        cases hb : ((ancT ops.toList []).getD i 0).testBit m with
        | false => rfl
        | true =>
          have := ancT_closed (S := fun j => (listed.setIfInBounds i true).getD j false) ops.toList [] (fun j o' h1 h2 => hcl' j o' h1 (by simpa using h2)) (by simp) i m (by simp only [hset]; simp) hb
          simp only [hset] at this
          have hmi : (m == i) = false := by
            cases hq : (m == i) with
            | false => rfl
            | true => rw [beq_iff_eq] at hq; subst hq; rw [hTi] at hm; cases hm
          rw [hT m hm, hmi] at this; cases this
      have hok := hev i o e ho' hei hSi hTi hbt
      obtain ⟨hdst, hok⟩ := hok
      have stE := listed_stE hei hi2 hL hLi he
      have stH := listed_stH hei hi2 hL hLi hh
      have hsz' : (listed.setIfInBounds i true).size = ops.size := by simpa using hsz
      have hcount' := listed_count (ops := ops) hi2 hLi hcount
      have hS' : ∀ j, S0 j = true → (listed.setIfInBounds i true).getD j false = true := fun j hj => by rw [hset, hS j hj]; rfl
      have hT' : ∀ m, T0 m = true → (listed.setIfInBounds i true).getD m false = false := fun m hm => by
        rw [hset, hT m hm]
        cases hq : (m == i) with
        | false => rfl
        | true => rw [beq_iff_eq] at hq; subst hq; rw [hTi] at hm; cases hm
      have hmem : o ∈ ops.toList := List.mem_of_getElem? ho'
      have hszt : ∀ t, o.dst = some t → t < a.tmps.size := by rw [st.size]; exact dstOk_mem hd o hmem
      have putE : ∀ (v : AV), v = e.v → ∀ t, aget (S.put env o.dst v) t = aget (setsH env e.wE) t := by
        rintro v rfl t
        rw [hdst]
        unfold EvD.wE S.put
        cases e.dst <;> rfl
      unfold wpOp
      rw [ho]
      simp only
      obtain ⟨g, hg, hgt, hgf⟩ := hok env H rdE rdH
      have hw := gA_ok st.env (fun o ho => by rw [st.size]; exact dstOk_mem hd o ho) hg
      rw [hw]
      cases g with
      | true =>
        refine Or.inl ?_
        have hstp := hgt rfl (fun v H' => v = e.v ∧ ∀ n, aget H' n = aget (setsH H e.d) n) (fun H' h => ⟨rfl, h⟩)
        refine stp_sound (hc G hp) st.env st.inv hstp ?_
        rintro ν' v c H' w' k1 k2 k3 ⟨k4, k5⟩
        refine ih _ ν' (S.put env o.dst v) H' _ w' hsz' hcount' hcl' hS' hT' (stE _ (putE v k4)) (stH _ k5) ⟨?_, ?_, (st.env.keeps k1).put hszt k2, k3⟩
        · cases ho : o.dst <;> exact st.defers
        · cases ho : o.dst <;> simp [Act.put, st.size]
      | false =>
        obtain ⟨e1, e2⟩ := hgf rfl
        refine ih _ ν (S.put env o.dst (.tup [])) H _ w hsz' hcount' hcl' hS' hT' (stE _ (putE _ e1.symm)) (stH _ (by rw [e2]; exact fun _ => rfl)) ⟨?_, ?_, st.env.put hszt (v := .tup []) (c := undef) ⟨#[], rfl, .nil⟩, st.inv⟩
        · cases ho : o.dst <;> exact st.defers
        · cases ho : o.dst <;> simp [Act.put, st.size]
end

/-- All operations behind place k come behind operation k. -/
def behindB (an : List Nat) (k : Nat) : Nat → List Oper → Bool
  | _, [] => true
  | i, _ :: os => (an.getD i 0).testBit k && behindB an k (i + 1) os
theorem behindB_get {an : List Nat} {k : Nat} : ∀ {os : List Oper} {i : Nat}, behindB an k i os = true → ∀ {j}, j < os.length → (an.getD (i + j) 0).testBit k = true
  | [], _, _, j, h => by simp at h
  | _ :: os, i, h, j, hj => by
    simp only [behindB, Bool.and_eq_true] at h
    cases j with
    | zero => exact h.1
    | succ j =>
      have := behindB_get h.2 (j := j) (by simpa using hj)
      rw [← this]; congr 2; omega

/-- A call's outcome, told of some x. -/
def CallEvX (P : Program) (g : Nat) (args : List AV) (nm : Nat) (H : Heap) (rd : List Nat) {X : Type} (I : X → Prop) (v : X → AV) (d : X → List (Nat × Ent)) : Prop :=
  ∀ H2, (∀ n ∈ rd, aget H2 n = aget H n) → ∀ K : Kt, (∀ x H', I x → (∀ n, aget H' n = aget (setsH H2 (d x)) n) → K (v x) H') → callA P g args H2 nm K

theorem runs_map_take {β : Type} (f : EvD → List (Nat × β)) (l l' : List EvD) (s : List (Nat × β)) {j : Nat} (h : j ≤ l.length) : runs (((l ++ l').map f).take j) s = runs ((l.map f).take j) s := by
  rw [List.map_append, List.take_append_of_le_length (by simpa using h)]
theorem W_drawnX {P : Program} (hm : P.follows .mixedOrders = true) {nt : Nat} {ks : List It} {env : Env} {H : Heap} {R : Env → Heap → Prop} {id : Nat} {ops : Array Oper} (k : Nat) {ok : Oper} {pre : List EvD} {rd : List Nat} {g : Nat} {args : List AV}
    {X : Type} {I : X → Prop} {v : X → AV} {d : X → List (Nat × Ent)} {post : X → List EvD}
    (hk : ops.toList[k]? = some ok) (hplen : pre.length = k) (hbeh : behindB (ancT ops.toList []) k (k + 1) (ops.toList.drop (k + 1)) = true)
    (hpre : EvAll P (callA P) ops.toList id 0 (ops.toList.take k) pre env H)
    (hind0 : indep ops.toList (pre ++ ⟨slots ops.toList ok, fp (nmOf id k) ok (ev (runs (pre.map EvD.wE) env)) ++ rd, ok.dst, .any, []⟩ :: List.replicate (ops.toList.length - (k + 1)) junkE) = true)
    (hback : backB 0 ops.toList = true)
    (hg : gA ops.toList (runs (pre.map EvD.wE) env) ok = some true)
    (hres : res P (nmOf id k) ok (ev (runs (pre.map EvD.wE) env)) (aget (runs (pre.map EvD.d) H)) = .call g args)
    (hcall : CallEvX P g args (nmOf id k) (runs (pre.map EvD.d) H) rd I v d)
    (hind : ∀ x, I x → indep ops.toList (pre ++ ⟨slots ops.toList ok, fp (nmOf id k) ok (ev (runs (pre.map EvD.wE) env)) ++ rd, ok.dst, v x, d x⟩ :: post x) = true)
    (hpost : ∀ x, I x → EvAll P (callA P) ops.toList id (k + 1) (ops.toList.drop (k + 1)) (post x) (S.put (runs (pre.map EvD.wE) env) ok.dst (v x)) (setsH (runs (pre.map EvD.d) H) (d x)))
    (h : ∀ x, I x → W D P nt ks (runs ((post x).map EvD.wE) (S.put (runs (pre.map EvD.wE) env) ok.dst (v x))) (runs ((post x).map EvD.d) (setsH (runs (pre.map EvD.d) H) (d x))) R) :
    W D P nt (.code (.region id ops true) :: ks) env H R := by
  intro hkk G hp hB hD ν a w st
  have hd : dstOk nt ops = true := hkk (.code (.region id ops true)) (by simp)
  have hks : ∀ k ∈ ks, itOk nt k := fun k hk' => hkk k (by simp [hk'])
  have hklt : k < ops.toList.length := (List.getElem?_eq_some_iff.1 hk).1
  refine wp_region_any hm ?_
  have noS : ∀ {β : Type} (ws : List (List (Nat × β))) (s : List (Nat × β)) (k : Nat), aget (appS (fun j => (Array.replicate ops.size false).getD j false) 0 ws s) k = aget s k := by
    intro β ws s k
    have e : aget s k = aget (appS (fun j => decide (j < 0)) 0 ws s) k := by rw [appS_lt]; simp [runs]
    rw [e]
    refine appS_agree ws 0 s s rfl fun j w' _ _ => ?_
    have : (Array.replicate ops.size false).getD (0 + j) false = false := by
      simp only [Array.getD]; split
      · simp
      · rfl
    rw [this]; simp
  have preOk : ∀ (rest : List EvD) (j : Nat) (o : Oper) (e : EvD), ops.toList[j]? = some o → (pre ++ rest)[j]? = some e → j < k →
      EvOk P (callA P) ops.toList (nmOf id j) o e (runs (((pre ++ rest).map EvD.wE).take j) env) (runs (((pre ++ rest).map EvD.d).take j) H) := by
    intro rest j o e ho he hj
    rw [runs_map_take EvD.wE _ _ _ (by omega), runs_map_take EvD.d _ _ _ (by omega)]
    have := hpre.get (j := j) (o := o) (e := e) (by rw [List.getElem?_take, if_pos hj]; exact ho) (by rwa [List.getElem?_append_left (by omega)] at he)
    rwa [Nat.zero_add] at this
  have len0 : ops.toList.length = (pre ++ (⟨slots ops.toList ok, fp (nmOf id k) ok (ev (runs (pre.map EvD.wE) env)) ++ rd, ok.dst, .any, []⟩ : EvD) :: List.replicate (ops.toList.length - (k + 1)) junkE).length := by
    rw [List.length_append, List.length_cons, List.length_replicate]; omega
  have behind : ∀ (listed : Array Bool), (∀ j o, ops.toList[j]? = some o → listed.getD j false = true → ∀ d ∈ direct o, listed.getD d false = true) → listed.getD k false = false → listed.size = ops.size → ∀ j, k < j → listed.getD j false = false := by
    intro listed hcl hLk hsz j hj
    cases hlj : listed.getD j false with
    | false => rfl
    | true =>
      have hjlt : j < ops.toList.length := by
        rcases Nat.lt_or_ge j listed.size with q | q
        · simpa [← hsz] using q
        · have : listed.getD j false = false := by
            have q2 : ¬ j < listed.size := by omega
            simp [Array.getD, q2]
          rw [this] at hlj; cases hlj
      have hb := behindB_get hbeh (j := j - (k + 1)) (by rw [List.length_drop]; omega)
      rw [show k + 1 + (j - (k + 1)) = j by omega] at hb
      have := ancT_closed (S := fun j => listed.getD j false) ops.toList [] (fun j o' h1 h2 => hcl j o' h1 (by simpa using h2)) (by simp) j k hlj hb
      rw [hLk] at this; cases this
  refine draw_gen (G := G) (hp := hp) (callA_ok P) hd (id := id) (fun _ => false) (fun j => j == k) len0 ?_ hind0 hback ?_ ?_ ops.size _ ν env H a _ (by simp) (by simp) ?_ (by simp) ?_ (fun t => (noS _ _ t).symm) (fun n => (noS _ _ n).symm) ?_
  · intro j o e ho he _ hT hb
    have hjk : j ≠ k := by simpa using hT
    have hjlt : j < ops.toList.length := (List.getElem?_eq_some_iff.1 ho).1
    rcases Nat.lt_or_gt_of_ne hjk with q | q
    · exact preOk _ j o e ho he q
    · have hb2 := behindB_get hbeh (j := j - (k + 1)) (by rw [List.length_drop]; omega)
      rw [show k + 1 + (j - (k + 1)) = j by omega] at hb2
      rw [hb k (by simp)] at hb2; cases hb2
  · intro j o e fuel listed ν env' H' a w ho he hT hsz hcount hcl hTl hLj hpre' rdE rdH hE hH st
    have hjk : j = k := by simpa using hT
    subst hjk
    rw [hk] at ho; cases ho
    have hek : e = ⟨slots ops.toList ok, fp (nmOf id j) ok (ev (runs (pre.map EvD.wE) env)) ++ rd, ok.dst, .any, []⟩ := by
      rw [List.getElem?_append_right (by omega), hplen, Nat.sub_self] at he
      exact (Option.some.inj he).symm
    have tk : ∀ {β : Type} (f : EvD → List (Nat × β)) (s : List (Nat × β)) (rest : List EvD), runs (((pre ++ rest).map f).take j) s = runs (pre.map f) s := by
      intro β f s rest
      rw [runs_map_take f pre rest s (by omega), List.take_of_length_le (by simpa using Nat.le_of_eq hplen)]
    rw [tk] at rdE rdH
    rw [hek] at rdE rdH
    dsimp only at rdE rdH
    have hi2 : j < listed.size := by rw [hsz]; simpa using hklt
    unfold wpOp
    have ho' : ops[j]? = some ok := by simpa using hk
    rw [ho']
    simp only
    have hg' : gA ops.toList env' ok = some true := by rw [gA_slots rdE, hg]
    have hw := gA_ok st.env (fun o ho => by rw [st.size]; exact dstOk_mem hd o ho) hg'
    rw [hw]
    refine Or.inl ?_
    have hmem : ok ∈ ops.toList := List.mem_of_getElem? hk
    have hszt : ∀ t, ok.dst = some t → t < a.tmps.size := by rw [st.size]; exact dstOk_mem hd ok hmem
    have hstp : stp P (callA P) (nmOf id j) ok env' H' (fun v' H2 => ∃ x, I x ∧ v' = v x ∧ ∀ n, aget H2 n = aget (setsH H' (d x)) n) := by
      refine res_stp ?_
      rw [res_congr (ev_slots rdE) fun n hn => rdH n (List.mem_append_left _ hn), hres]
      exact hcall H' (fun n hn => rdH n (List.mem_append_right _ hn)) (fun v' H2 => ∃ x, I x ∧ v' = v x ∧ ∀ n, aget H2 n = aget (setsH H' (d x)) n) fun x H2 hx hd => ⟨x, hx, rfl, hd⟩
    refine stp_sound (callA_ok P G hp) st.env st.inv hstp ?_
    rintro ν' v' c H2 w' k1 k2 k3 ⟨x, hx, rfl, k5⟩
    have hindx := hind x hx
    have hpx := hpost x hx
    have hplx := hpx.len
    rw [List.length_drop] at hplx
    have heix : (pre ++ (⟨slots ops.toList ok, fp (nmOf id j) ok (ev (runs (pre.map EvD.wE) env)) ++ rd, ok.dst, v x, d x⟩ : EvD) :: post x)[j]? = some ⟨slots ops.toList ok, fp (nmOf id j) ok (ev (runs (pre.map EvD.wE) env)) ++ rd, ok.dst, v x, d x⟩ := by
      rw [List.getElem?_append_right (by omega), hplen, Nat.sub_self]; rfl
    have hbh := behind listed hcl hLj hsz
    have agree : ∀ {β : Type} (f : EvD → List (Nat × β)) (s : List (Nat × β)) (r1 r2 : List EvD) (t : Nat), r1.length = r2.length → aget (appS (fun j => listed.getD j false) 0 ((pre ++ r1).map f) s) t = aget (appS (fun j => listed.getD j false) 0 ((pre ++ r2).map f) s) t := by
      intro β f s r1 r2 t hr
      have key : ∀ r : List EvD, aget (appS (fun j => listed.getD j false) 0 ((pre ++ r).map f) s) t = aget (appS (fun i => listed.getD i false) 0 (pre.map f) s) t := by
        intro r
        have gen : ∀ (l : List (List (Nat × β))) (r : List (List (Nat × β))) (i : Nat) (s : List (Nat × β)), (∀ q, i + l.length ≤ q → listed.getD q false = false) → appS (fun j => listed.getD j false) i (l ++ r) s = appS (fun j => listed.getD j false) i l s := by
          intro l
          induction l with
          | nil =>
            intro r
            induction r with
            | nil => intros; rfl
            | cons w r ihr =>
              intro i s hq
              have h1 := ihr (i + 1) s (fun q hq' => hq q (by simp at hq' ⊢; omega))
              have h2 := hq i (by simp)
              simp only [List.nil_append] at h1 ⊢
              simp only [appS]
              rw [h2]
              exact h1
          | cons w l ihl =>
            intro r i s hq
            simp only [List.cons_append, appS]
            exact ihl r (i + 1) _ fun q hq' => hq q (by simp at hq' ⊢; omega)
        rw [List.map_append]
        refine congrArg (fun z => aget z t) (gen (pre.map f) (r.map f) 0 s fun q hq => ?_)
        rw [List.length_map, hplen] at hq
        rcases Nat.lt_or_ge j q with z | z
        · exact hbh q z
        · have : q = j := by omega
          subst this; exact hLj
      rw [key r1, key r2]
    have hr12 : ((⟨slots ops.toList ok, fp (nmOf id j) ok (ev (runs (pre.map EvD.wE) env)) ++ rd, ok.dst, .any, []⟩ : EvD) :: List.replicate (ops.toList.length - (j + 1)) junkE).length = ((⟨slots ops.toList ok, fp (nmOf id j) ok (ev (runs (pre.map EvD.wE) env)) ++ rd, ok.dst, v x, d x⟩ : EvD) :: post x).length := by
      rw [List.length_cons, List.length_cons, List.length_replicate, hplx]
    have hE' := fun t => (hE t).trans (agree EvD.wE env _ _ t hr12)
    have hH' := fun n => (hH n).trans (agree EvD.d H _ _ n hr12)
    have hL := listed_L hindx hk heix hi2 hLj hpre' hcl
    have hset := listed_set hi2
    have full : ∀ {β : Type} (f : EvD → List (Nat × β)) (s : List (Nat × β)) (e : EvD) (r : List EvD), runs ((pre ++ e :: r).map f) s = runs (r.map f) (setsH (runs (pre.map f) s) (f e)) := by
      intro β f s e r
      rw [List.map_append, runs_append]; rfl
    refine draw_gen (G := G) (hp := hp) (callA_ok P) hd (fun i => i == j) (fun _ => false) (evs := pre ++ ⟨slots ops.toList ok, fp (nmOf id j) ok (ev (runs (pre.map EvD.wE) env)) ++ rd, ok.dst, v x, d x⟩ :: post x) (env0 := env) (H0 := H) (id := id) ?_ ?_ hindx hback ?_ ?_ fuel _ ν' (S.put env' ok.dst (v x)) H2 _ w' (by simpa using hsz) (listed_count (ops := ops) hi2 hLj hcount) (listed_cl hk hi2 hpre' hcl) ?_ (by simp) ?_ ?_ ?_
    · rw [List.length_append, List.length_cons, ← hplx]; omega
    · intro i o e ho he hS _ _
      have hij : i ≠ j := by simpa using hS
      rcases Nat.lt_or_gt_of_ne hij with q | q
      · exact preOk _ i o e ho he q
      · have h1 := hpx.get (j := i - (j + 1)) (o := o) (e := e) (by rw [List.getElem?_drop, show j + 1 + (i - (j + 1)) = i by omega]; exact ho) (by
          rw [List.getElem?_append_right (by omega), hplen, show i - j = (i - (j + 1)) + 1 by omega, List.getElem?_cons_succ] at he
          exact he)
        rw [show j + 1 + (i - (j + 1)) = i by omega] at h1
        have tk2 : ∀ {β : Type} (f : EvD → List (Nat × β)) (s : List (Nat × β)) (e : EvD) (r : List EvD), runs (((pre ++ e :: r).map f).take i) s = runs ((r.map f).take (i - (j + 1))) (setsH (runs (pre.map f) s) (f e)) := by
          intro β f s e r
          rw [List.map_append, List.take_append, List.take_of_length_le (by simp; omega), runs_append, List.length_map, hplen, show i - j = (i - (j + 1)) + 1 by omega]
          rfl
        rw [tk2, tk2, ← put_wE]
        exact h1
    · intro _ _ _ _ _ _ _ _ _ _ _ _ hT; cases hT
    · intro _ ν a w st
      rw [full, full, ← put_wE] at st
      exact h x hx hks G hp hB hD ν a w st
    · intro i hi
      have : i = j := by simpa using hi
      subst this
      rw [hset]; simp
    · refine listed_stE heix hi2 hL hLj hE' _ fun t => ?_
      rw [← put_wE]
    · exact listed_stH heix hi2 hL hLj hH' _ k5
    · refine ⟨?_, ?_, (st.env.keeps k1).put hszt k2, k3⟩
      · cases ho : ok.dst <;> exact st.defers
      · cases ho : ok.dst <;> simp [Act.put, st.size]
  · intro hT
    have := hT k (by simpa using hklt)
    simp at this
  · intro j o _ hj
    have : (Array.replicate ops.size false).getD j false = false := by
      simp only [Array.getD]; split
      · simp
      · rfl
    rw [this] at hj; cases hj
  · intro m _
    simp only [Array.getD]; split
    · simp
    · rfl
  · exact ⟨st.defers, st.size, st.env, ⟨st.inv.er, st.inv.inj, st.inv.dom, st.inv.gfr, st.inv.nb, st.inv.own, st.inv.fx⟩⟩

/-! By a script -/
/-- The events of a stretch of code, as the script tells them. -/
def evl (P : Program) (all : List Oper) (id : Nat) : Nat → List Oper → Env → Heap → List Scr → Option (List EvD)
  | _, [], _, _, _ => some []
  | i, o :: os, env, H, scr => match o.guard with
    | none => (match res P (nmOf id i) o (ev env) (aget H) with
      | .ok _ v d => (evl P all id (i + 1) os (put env o.dst (sv i v scr)) (setsH H d) (sr i scr)).map (⟨slots all o, fp (nmOf id i) o (ev env), o.dst, sv i v scr, d⟩ :: ·)
      | .pick b x y => (evl P all id (i + 1) os (put env o.dst (sv i (bif b then x else y) scr)) H (sr i scr)).map (⟨slots all o, fp (nmOf id i) o (ev env), o.dst, sv i (bif b then x else y) scr, []⟩ :: ·)
      | .call _ _ => match scr with
        | .c rd v d :: scr' => (evl P all id (i + 1) os (put env o.dst v) (setsH H d) scr').map (⟨slots all o, fp (nmOf id i) o (ev env) ++ rd, o.dst, v, d⟩ :: ·)
        | _ => none
      | _ => none)
    | some _ => match scr with
      | .g true :: scr => (match res P (nmOf id i) o (ev env) (aget H) with
        | .ok _ v d => (evl P all id (i + 1) os (put env o.dst (sv i v scr)) (setsH H d) (sr i scr)).map (⟨slots all o, fp (nmOf id i) o (ev env), o.dst, sv i v scr, d⟩ :: ·)
        | .pick b x y => (evl P all id (i + 1) os (put env o.dst (sv i (bif b then x else y) scr)) H (sr i scr)).map (⟨slots all o, fp (nmOf id i) o (ev env), o.dst, sv i (bif b then x else y) scr, []⟩ :: ·)
        | .call _ _ => match scr with
          | .c rd v d :: scr' => (evl P all id (i + 1) os (put env o.dst v) (setsH H d) scr').map (⟨slots all o, fp (nmOf id i) o (ev env) ++ rd, o.dst, v, d⟩ :: ·)
          | _ => none
        | _ => none)
      | .g false :: scr => (evl P all id (i + 1) os (put env o.dst (.tup [])) H scr).map (⟨slots all o, [], o.dst, .tup [], []⟩ :: ·)
      | _ => none
theorem rdr_evl {P : Program} {all : List Oper} {id : Nat} {K : Env → Heap → Prop} : ∀ (os : List Oper) (i : Nat) (env : Env) (H : Heap) (scr : List Scr) (evs : List EvD),
    evl P all id i os env H scr = some evs → rdr P all id i os env H scr K → EvAll P (callA P) all id i os evs env H ∧ K (runs (evs.map EvD.wE) env) (runs (evs.map EvD.d) H)
  | [], _, _, _, _, evs, h1, h2 => by cases h1; exact ⟨trivial, h2⟩
  | o :: os, i, env, H, scr, evs, h1, h2 => by
    have go : ∀ (e : EvD) (scr' : List Scr) (env' : Env) (H' : Heap), env' = setsH env e.wE → H' = setsH H e.d → EvOk P (callA P) all (nmOf id i) o e env H → (evl P all id (i + 1) os env' H' scr').map (e :: ·) = some evs → rdr P all id (i + 1) os env' H' scr' K →
        EvAll P (callA P) all id i (o :: os) evs env H ∧ K (runs (evs.map EvD.wE) env) (runs (evs.map EvD.d) H) := by
      rintro e scr' env' H' rfl rfl he hr h2
      obtain ⟨evs', h1', rfl⟩ := Option.map_eq_some_iff.1 hr
      obtain ⟨h3, h4⟩ := rdr_evl os _ _ _ _ _ h1' h2
      exact ⟨⟨he, h3⟩, h4⟩
    have okk : ∀ (scr : List Scr) ob v d, gA all env o = some true → res P (nmOf id i) o (ev env) (aget H) = .ok ob v d → ob → v = sv i v scr → EvOk P (callA P) all (nmOf id i) o ⟨slots all o, fp (nmOf id i) o (ev env), o.dst, sv i v scr, d⟩ env H := by
      intro scr ob v d hg hres hob hv
      refine ⟨rfl, fun env' H' h1 h2 => ⟨true, by rw [gA_slots h1, hg], fun _ K hK => ?_, by simp⟩⟩
      refine res_stp ?_
      rw [res_congr (ev_slots h1) h2, hres]
      dsimp only at hK
      rw [← hv] at hK
      exact ⟨hob, hK _ fun _ => rfl⟩
    have pkk : ∀ (scr : List Scr) b x y, gA all env o = some true → res P (nmOf id i) o (ev env) (aget H) = .pick b x y → (bif b then x else y) = sv i (bif b then x else y) scr → EvOk P (callA P) all (nmOf id i) o ⟨slots all o, fp (nmOf id i) o (ev env), o.dst, sv i (bif b then x else y) scr, []⟩ env H := by
      intro scr b x y hg hres hv
      refine ⟨rfl, fun env' H' h1 h2 => ⟨true, by rw [gA_slots h1, hg], fun _ K hK => ?_, by simp⟩⟩
      refine res_stp ?_
      rw [res_congr (ev_slots h1) h2, hres]
      dsimp only at hK
      rw [← hv] at hK
      have := hK H' fun _ => rfl
      cases b
      · exact ⟨by simp, fun _ => this⟩
      · exact ⟨fun _ => this, by simp⟩
    have clk : ∀ g args rd v d, gA all env o = some true → res P (nmOf id i) o (ev env) (aget H) = .call g args → CallEv P g args (nmOf id i) H rd v d → EvOk P (callA P) all (nmOf id i) o ⟨slots all o, fp (nmOf id i) o (ev env) ++ rd, o.dst, v, d⟩ env H := by
      intro g args rd v d hg hres hc
      refine ⟨rfl, fun env' H' h1 h2 => ⟨true, by rw [gA_slots h1, hg], fun _ K hK => ?_, by simp⟩⟩
      refine res_stp ?_
      rw [res_congr (ev_slots h1) fun n hn => h2 n (List.mem_append_left _ hn), hres]
      exact hc H' (fun n hn => h2 n (List.mem_append_right _ hn)) K hK
    simp only [evl] at h1
    simp only [rdr] at h2
    cases hg : o.guard with
    | none =>
      rw [hg] at h1 h2
      have hga : gA all env o = some true := by simp [gA, hg]
      simp only at h1 h2
      cases hres : res P (nmOf id i) o (ev env) (aget H) <;> rw [hres] at h1 h2 <;> simp only at h1 h2
      case ok => exact go _ _ _ _ (put_wE ..) rfl (okk scr _ _ _ hga hres h2.1 h2.2.1) h1 h2.2.2
      case pick => exact go _ _ _ _ (put_wE ..) rfl (pkk scr _ _ _ hga hres h2.1) h1 h2.2
      case call =>
        split at h2
        · simp only at h1
          exact go _ _ _ _ (put_wE ..) rfl (clk _ _ _ _ _ hga hres h2.1) h1 h2.2
        · exact h2.elim
      all_goals exact h2.elim
    | some q =>
      rw [hg] at h1 h2
      simp only at h1 h2
      split at h2
      · rename_i scr
        have hga := h2.1
        have h2 := h2.2
        simp only at h1 h2
        cases hres : res P (nmOf id i) o (ev env) (aget H) <;> rw [hres] at h1 h2 <;> simp only at h1 h2
        case ok => exact go _ _ _ _ (put_wE ..) rfl (okk scr _ _ _ hga hres h2.1 h2.2.1) h1 h2.2.2
        case pick => exact go _ _ _ _ (put_wE ..) rfl (pkk scr _ _ _ hga hres h2.1) h1 h2.2
        case call =>
          split at h2
          · simp only at h1
            exact go _ _ _ _ (put_wE ..) rfl (clk _ _ _ _ _ hga hres h2.1) h1 h2.2
          · exact h2.elim
        all_goals exact h2.elim
      · exact go ⟨slots all o, [], o.dst, .tup [], []⟩ _ _ _ (put_wE ..) rfl ⟨rfl, fun env' H' h1 h3 => ⟨false, by rw [gA_slots h1, h2.1], by simp, fun _ => ⟨rfl, rfl⟩⟩⟩ h1 h2.2
      · exact h2.elim

/-- The checks of a region's order: what is ahead of the call, and the call; then all of it, for one outcome. -/
def drawOk0 (P : Program) (all : List Oper) (id k : Nat) (env : Env) (H : Heap) (scr : List Scr) (rd : List Nat) : Bool :=
  match all[k]?, evl P all id 0 (all.take k) env H scr with
  | some ok, some pre => pre.length == k && behindB (ancT all []) k (k + 1) (all.drop (k + 1)) && ok.guard.isNone &&
      indep all (pre ++ ⟨slots all ok, fp (nmOf id k) ok (ev (runs (pre.map EvD.wE) env)) ++ rd, ok.dst, .any, []⟩ :: List.replicate (all.length - (k + 1)) junkE)
  | _, _ => false
def drawOk1 (P : Program) (all : List Oper) (id k : Nat) (env : Env) (H : Heap) (scr : List Scr) (rd : List Nat) (v : AV) (d : List (Nat × Ent)) (scr2 : List Scr) : Bool :=
  match all[k]?, evl P all id 0 (all.take k) env H scr with
  | some ok, some pre => match evl P all id (k + 1) (all.drop (k + 1)) (S.put (runs (pre.map EvD.wE) env) ok.dst v) (setsH (runs (pre.map EvD.d) H) d) scr2 with
    | some post => indep all (pre ++ ⟨slots all ok, fp (nmOf id k) ok (ev (runs (pre.map EvD.wE) env)) ++ rd, ok.dst, v, d⟩ :: post)
    | none => false
  | _, _ => false
/-- The call in the midst. -/
def MidX (P : Program) (all : List Oper) (id k : Nat) (rd : List Nat) {X : Type} (I : X → Prop) (v : X → AV) (d : X → List (Nat × Ent)) (scr2 : List Scr) (K : Env → Heap → Prop) (ok : Oper) (env : Env) (H : Heap) : Prop :=
  ∃ g args, res P (nmOf id k) ok (ev env) (aget H) = .call g args ∧ CallEvX P g args (nmOf id k) H rd I v d ∧
    ∀ x, I x → rdr P all id (k + 1) (all.drop (k + 1)) (S.put env ok.dst (v x)) (setsH H (d x)) scr2 K
theorem W_dsx {P : Program} (hm : P.follows .mixedOrders = true) {nt : Nat} {ks : List It} {env : Env} {H : Heap} {R : Env → Heap → Prop} {id : Nat} {ops : Array Oper} (k : Nat) (ok : Oper) (scr scr2 : List Scr) {rd : List Nat} {X : Type} {I : X → Prop} {v : X → AV} {d : X → List (Nat × Ent)}
    (hk : ops.toList[k]? = some ok)
    (hback : backB 0 ops.toList = true)
    (hok0 : drawOk0 P ops.toList id k env H scr rd = true)
    (hok1 : ∀ x, drawOk1 P ops.toList id k env H scr rd (v x) (d x) scr2 = true)
    (h : ∀ K : Env → Heap → Prop, (∀ env H, W D P nt ks env H R → K env H) → rdr P ops.toList id 0 (ops.toList.take k) env H scr (MidX P ops.toList id k rd I v d scr2 K ok)) : W D P nt (.code (.region id ops true) :: ks) env H R := by
  have h := h (fun env H => W D P nt ks env H R) fun _ _ h => h
  unfold drawOk0 at hok0
  rw [hk] at hok0
  cases he : evl P ops.toList id 0 (ops.toList.take k) env H scr with
  | none => rw [he] at hok0; cases hok0
  | some pre =>
    rw [he] at hok0
    simp only [Bool.and_eq_true, beq_iff_eq] at hok0
    obtain ⟨⟨⟨o1, o2⟩, o3⟩, o4⟩ := hok0
    obtain ⟨h1, g, args, h2, h3, h4⟩ := rdr_evl _ _ _ _ _ _ he h
    have hp : ∀ x, ∃ post, evl P ops.toList id (k + 1) (ops.toList.drop (k + 1)) (S.put (runs (pre.map EvD.wE) env) ok.dst (v x)) (setsH (runs (pre.map EvD.d) H) (d x)) scr2 = some post ∧
        indep ops.toList (pre ++ ⟨slots ops.toList ok, fp (nmOf id k) ok (ev (runs (pre.map EvD.wE) env)) ++ rd, ok.dst, v x, d x⟩ :: post) = true := by
      intro x
      have := hok1 x
      unfold drawOk1 at this
      rw [hk, he] at this
      simp only at this
      split at this
      · rename_i post hpost; exact ⟨post, hpost, this⟩
      · cases this
    refine W_drawnX hm k (post := fun x => Classical.choose (hp x)) hk o1 o2 h1 o4 hback (by
      have : ok.guard = none := by simpa using o3
      simp [gA, this]) h2 h3 (fun x _ => (Classical.choose_spec (hp x)).2) (fun x hx => ?_) fun x hx => ?_
    · exact (rdr_evl _ _ _ _ _ _ (Classical.choose_spec (hp x)).1 (h4 x hx)).1
    · exact (rdr_evl _ _ _ _ _ _ (Classical.choose_spec (hp x)).1 (h4 x hx)).2
theorem callEvX_of {P : Program} {g : Nat} {args args0 : List AV} {nm : Nat} {H H0 : Heap} {X : Type} {I : X → Prop} {H1 : X → Heap} {r : X → AV} {μ : List (Nat × (Nat × Nat))} (hfn : Fn P g H0 args0 fun r' H' => ∃ x, I x ∧ r' = r x ∧ H' = H1 x)
    (hs : args.all AV.fits = true ∧ args = args0.map (renA (aget μ)) ∧ matchH μ H H0 ∧ apartB μ H0 = true ∧ freeB H nm = true ∧ domB μ H0 = true ∧ nodupB H0 = true ∧ 100 ≤ nm) (hn : ∀ x, nodupB (H1 x) = true) :
    CallEvX P g args nm H (rdOf nm μ) I (fun x => renV (mu1 μ nm) (r x)) (fun x => afterD μ nm H0 (H1 x)) := by
  obtain ⟨a1, a2, a3, a4, a5, a6, a7, a8⟩ := hs
  intro H2 he K hK
  refine ⟨H0, args0, _, μ, hfn, a1, a2, matchH_congr (fun p hp => he _ ?_) a3, a4, freeB_congr a5 he, a6, a7, a8, ?_⟩
  · exact List.mem_append_right _ (List.mem_map.2 ⟨p, hp, rfl⟩)
  · rintro _ _ ⟨x, hx, rfl, rfl⟩
    exact ⟨hn x, by rw [afterD_eq]; exact hK x _ hx fun _ => rfl⟩
end Go.Proofs.YtnepiffboakehaaGreatDoor.S
