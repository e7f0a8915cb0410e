/- Writes into maps. -/
import Derived.Test.YtdbaglgkbfjbnaaGreatEvA
import Derived.Tactics
import Derived.LoopN
import Derived.Scope

set_option linter.unusedVariables false
set_option linter.unusedSimpArgs false
namespace Go.Ev

section
variable {E : Env} {ρ : Rho} {P : Program} {F : Facts} {H : Heap} {w : World}

def World.setObjAt (w : World) (b : Nat) (o : Obj) : World := { w with heap := w.heap.setIfInBounds b o }

theorem run_setMap {b : Nat} {ms : Array MapEntry} {c : Nat} (hb : w.heap[b]? = some (.map ms c)) (o : Obj) : (setObj b o).run P w = .ok () (World.setObjAt w b o) := by
  simp only [setObj, Sem.run, hb]
  rfl
theorem run_getMap {b : Nat} {ms : Array MapEntry} {c : Nat} (hb : w.heap[b]? = some (.map ms c)) : (getObj b).run P w = .ok (.map ms c) w := by
  simp [getObj, Sem.run, hb]

theorem ents_get : ∀ (es : List (AV × AV)) (ms : List MapEntry) (j : Nat) (k x : AV), entsRel E ρ es ms → es[j]? = some (k, x) → ∃ m, ms[j]? = some m ∧ val E ρ k m.key ∧ val E ρ x m.val
  | [], ms, j, k, x, h, hj => by simp at hj
  | (k', x') :: es, ms, j, k, x, h, hj => by
    simp only [entsRel] at h
    obtain ⟨m, r, rfl, h1, h2, h3⟩ := h
    cases j with
    | zero =>
      simp only [List.getElem?_cons_zero, Option.some.injEq, Prod.mk.injEq] at hj
      obtain ⟨rfl, rfl⟩ := hj
      exact ⟨m, by simp, h1, h2⟩
    | succ j =>
      simp only [List.getElem?_cons_succ] at hj ⊢
      exact ents_get es r j k x h3 hj

theorem ents_set : ∀ (es : List (AV × AV)) (ms : List MapEntry) (j : Nat) (k x : AV) (f : MapEntry → MapEntry), entsRel E ρ es ms → (∀ m, val E ρ k (f m).key ∧ val E ρ x (f m).val) →
    entsRel E ρ (es.set j (k, x)) (ms.modify j f)
  | [], ms, j, k, x, f, h, hf => by simp only [entsRel] at h; subst h; cases j <;> simp [entsRel]
  | (k', x') :: es, ms, j, k, x, f, h, hf => by
    simp only [entsRel] at h
    obtain ⟨m, r, rfl, h1, h2, h3⟩ := h
    cases j with
    | zero =>
      simp only [List.set_cons_zero, List.modify_zero_cons, entsRel]
      exact ⟨_, _, rfl, (hf m).1, (hf m).2, h3⟩
    | succ j =>
      simp only [List.set_cons_succ, List.modify_succ_cons, entsRel]
      exact ⟨_, _, rfl, h1, h2, ents_set es r j k x f h3 hf⟩

theorem ents_push : ∀ (es : List (AV × AV)) (ms : List MapEntry) (k x : AV) (m : MapEntry), entsRel E ρ es ms → val E ρ k m.key → val E ρ x m.val → entsRel E ρ (es ++ [(k, x)]) (ms ++ [m])
  | [], ms, k, x, m, h, h1, h2 => by
    simp only [entsRel] at h
    subst h
    simp only [List.nil_append, entsRel]
    exact ⟨m, [], rfl, h1, h2, rfl⟩
  | (k', x') :: es, ms, k, x, m, h, h1, h2 => by
    simp only [entsRel] at h
    obtain ⟨m', r, rfl, g1, g2, g3⟩ := h
    simp only [List.cons_append, entsRel]
    exact ⟨_, _, rfl, g1, g2, ents_push es r k x m g3 h1 h2⟩

theorem Rel.setMap (h : Rel E ρ H w) {i b m : Nat} {es fs : List (AV × AV)} {ms ns : Array MapEntry} {c d : Nat} (hi : ρ i = some (b, m)) (hg : H.get i = some (.map es)) (hb : w.heap[b]? = some (.map ms c))
    (hr : entsRel E ρ fs ns.toList) : Rel E ρ (H.set i (.map fs)) (World.setObjAt w b (.map ns d)) ∧ Step ρ H w ρ (H.set i (.map fs)) (World.setObjAt w b (.map ns d)) := by
  have hlt : b < w.heap.size := (Array.getElem?_eq_some_iff.1 hb).1
  refine h.set hi hg rfl rfl _ ⟨rfl, rfl, rfl, by simp [World.setObjAt], fun j hj => ?_⟩ ?_
  · simp [World.setObjAt, Array.getElem?_setIfInBounds, Ne.symm hj]
  · simp only [blkRel]
    exact ⟨ns, d, by simp [World.setObjAt, Array.getElem?_setIfInBounds, hlt], hr⟩

theorem mapUpdate_ok (h : Rel E ρ H w) {t : TypeId} {m k x : AV} {um uk ux : Value} {H' : Heap} (hm : val E ρ m um) (hk : val E ρ k uk) (hx : val E ρ x ux) (he : mapUpdateA P H t m k x = some H') :
    ∃ w', (Instr.mapUpdate t um uk ux).run P w = .ok () w' ∧ Rel E ρ H' w' ∧ Step ρ H w ρ H' w' := by
  unfold mapUpdateA at he
  split at he
  · rename_i kT eT i hu
    split at he
    · rename_i es hg
      split at he
      · rename_i hko
        simp only [Bool.and_eq_true] at hko
        simp only [val] at hm
        obtain ⟨b, mm, hi, rfl⟩ := hm
        have hb := h.blk i b mm _ hi hg
        simp only [blkRel] at hb
        obtain ⟨ms, clock, hb, hr⟩ := hb
        have hck : (Instr.checkKey false 10000 kT uk).run P w = .ok () w := checkKey_run hko.1 hk
        split at he
        · simp at he
        · rename_i j v' hf
          simp only [Option.some.injEq] at he
          subst he
          obtain ⟨r', g1, g2⟩ := findKey_run h.toRd hko.1 hk hr hko.2 hf
          cases r' with
          | none => simp [found] at g1
          | some q =>
            obtain ⟨j', z⟩ := q
            simp only [found] at g1
            obtain ⟨rfl, g1⟩ := g1
            obtain ⟨_, k', hj, hkk⟩ := findA_at es 0 j v' hf
            have e := keyEq_same hkk rfl
            subst e
            simp only [Nat.sub_zero] at hj
            obtain ⟨me, hme, hmk, hmv⟩ := ents_get es ms.toList j k v' hr hj
            have hkey : me.key = uk := key_unique hko.1 hmk hk
            have hme' : ms[j]? = some me := by simpa using hme
            have hstay : (Instr.keyThatStays (((ms[j]?).map (·.key)).getD uk) uk).run P w = .ok uk w := by
              simp only [hme', Option.map_some, Option.getD_some, hkey, Instr.keyThatStays]
              rw [sameBits_key hko.1 hk]
              simp
            obtain ⟨q1, q2⟩ := Rel.setMap (w := w) (d := clock) h hi hg hb (fs := setAt es j k x) (ns := ms.modify j fun e => { e with key := uk, val := ux }) (by
              simp only [Array.toList_modify]
              exact ents_set es _ j k x _ hr (fun m => ⟨hk, hx⟩))
            refine ⟨_, ?_, q1, q2⟩
            simp [Instr.mapUpdate, run_underlying hu, run_getMap hb, hck, g2, hstay, run_setMap hb]
        · rename_i hf
          simp only [Option.some.injEq] at he
          subst he
          obtain ⟨r', g1, g2⟩ := findKey_run h.toRd hko.1 hk hr hko.2 hf
          cases r' with
          | some q => simp [found] at g1
          | none =>
            obtain ⟨q1, q2⟩ := Rel.setMap (w := w) (d := clock + 1) h hi hg hb (fs := es ++ [(k, x)]) (ns := ms.push { key := uk, val := ux, born := clock }) (by
              simp only [Array.toList_push]
              exact ents_push es _ k x _ hr hk hx)
            refine ⟨_, ?_, q1, q2⟩
            simp [Instr.mapUpdate, run_underlying hu, run_getMap hb, hck, g2, run_setMap hb]
      · simp at he
    · simp at he
  · simp at he

end
end Go.Ev

/- Appends. -/
set_option linter.unusedVariables false
set_option linter.unusedSimpArgs false
namespace Go.Ev

section
variable {E : Env} {ρ : Rho} {P : Program} {F : Facts} {H : Heap} {w : World}

/-- A number for a block that has no living number. -/
theorem Rel.alias (h : Rel E ρ H w) {b m : Nat} {B : ABlk} (hmap : ∃ j, ρ j = some (b, m)) (hb : b < w.heap.size) (hno : ∀ i m' C, ρ i = some (b, m') → H.get i = some C → C.alive = false)
    (hB : blkRel E (upd ρ H.next (b, m)) w b m B) : Rel E (upd ρ H.next (b, m)) (H.push B) w := by
  have hnone : ρ H.next = none := by
    cases e : ρ H.next with
    | none => rfl
    | some x => have := (h.dom _ x.1 x.2 e).1; omega
  have hle := upd_le (x := (b, m)) hnone
  have hdead : ∀ i m' C, ρ i = some (b, m') → H.get i = some C → C.alive = true → False := fun i m' C h1 h2 h3 => by rw [hno i m' C h1 h2] at h3; simp at h3
  refine ⟨⟨?_, ?_⟩, ?_, ?_⟩
  · intro i b' m' C hi hg
    rw [Heap.get_push] at hg
    unfold upd at hi
    by_cases e : i = H.next
    · rw [if_pos e] at hi hg
      simp only [Option.some.injEq, Prod.mk.injEq] at hi hg
      obtain ⟨rfl, rfl⟩ := hi
      subst hg
      exact hB
    · rw [if_neg e] at hi hg
      exact blkRel_mono hle rfl C (h.blk i b' m' C hi hg)
  · intro i j b' m1 m2 C D hi hj hg hk hC hD
    rw [Heap.get_push] at hg hk
    unfold upd at hi hj
    by_cases e : i = H.next
    · by_cases f : j = H.next
      · rw [e, f]
      · rw [if_pos e] at hi
        rw [if_neg f] at hj hk
        simp only [Option.some.injEq, Prod.mk.injEq] at hi
        obtain ⟨rfl, rfl⟩ := hi
        exact (hdead j m2 D hj hk hD).elim
    · by_cases f : j = H.next
      · rw [if_neg e] at hi hg
        rw [if_pos f] at hj
        simp only [Option.some.injEq, Prod.mk.injEq] at hj
        obtain ⟨rfl, rfl⟩ := hj
        exact (hdead i m1 C hi hg hC).elim
      · rw [if_neg e] at hi hg
        rw [if_neg f] at hj hk
        exact h.inj i j b' m1 m2 C D hi hj hg hk hC hD
  · intro i b' m' hi
    show i < H.next + 1 ∧ b' < w.heap.size
    unfold upd at hi
    by_cases e : i = H.next
    · rw [if_pos e] at hi
      simp only [Option.some.injEq, Prod.mk.injEq] at hi
      omega
    · rw [if_neg e] at hi
      have := h.dom i b' m' hi
      omega
  · intro b' o' hp
    obtain ⟨p1, p2⟩ := h.pin b' o' hp
    refine ⟨p1, fun i m' hi => ?_⟩
    unfold upd at hi
    split at hi
    · simp only [Option.some.injEq, Prod.mk.injEq] at hi
      obtain ⟨j, hj⟩ := hmap
      exact p2 j m (by rw [← hi.1]; exact hj)
    · exact p2 i m' hi

theorem added_ok (h : Rd E ρ H w) {sz n : Nat} {x : AV} {u : Value} {xs : List AV} (hE : E.Ok) (hx : val E ρ x u) (he : addedA H sz x = some (n, xs)) :
    ∃ us : List Value, us.length = n * sz ∧ xs.length = n * sz ∧ vals E ρ xs us ∧ (∀ v ∈ us, v.oneCell' = true) ∧ (Builtin.lenOf u).run P w = .ok n w ∧ (Builtin.firstCells sz n u).run P w = .ok us.toArray w := by
  unfold addedA at he
  split at he
  · simp only [Option.some.injEq, Prod.mk.injEq] at he
    obtain ⟨rfl, rfl⟩ := he
    simp only [val] at hx
    obtain ⟨_, _, rfl⟩ := hx
    exact ⟨[], by simp, by simp, vals_nil, by simp, by simp [Builtin.lenOf], by simp [Builtin.firstCells]⟩
  · rename_i i o n' c ex z
    split at he
    · rename_i vs t lo ro hg
      simp only [Option.bind_eq_some_iff] at he
      obtain ⟨l, hl, he⟩ := he
      split at he
      · rename_i hall
        simp only [Option.some.injEq, Prod.mk.injEq] at he
        obtain ⟨rfl, rfl⟩ := he
        obtain ⟨b, m, c', hi, rfl, _, _, _⟩ := val_slice hx
        obtain ⟨us, h1, h2, h3⟩ := h.run hi hg hl
        refine ⟨us, h1, (getCells_some hl).2.1, h2, vals_one hE hall h2, by simp [Builtin.lenOf], ?_⟩
        exact run_firstCells_some (P := P) w sz n' ⟨b, o, none⟩ n' c' us h1 h3
      · simp at he
    · simp at he
  · rename_i l
    split at he
    · rename_i hsz
      subst hsz
      simp only [Option.some.injEq, Prod.mk.injEq] at he
      obtain ⟨rfl, rfl⟩ := he
      have e := val_str hx
      subst e
      refine ⟨l.map fun b => .int .u8 b.toNat, by simp, by simp, ?_, ?_, ?_, ?_⟩
      · exact vals_of_get (by simp) fun k a hk => by
          simp only [List.getElem?_map, Option.map_eq_some_iff] at hk ⊢
          obtain ⟨b, hb, rfl⟩ := hk
          exact ⟨_, ⟨b, hb, rfl⟩, by simp [val]⟩
      · intro v hv
        simp only [List.mem_map] at hv
        obtain ⟨b, _, rfl⟩ := hv
        rfl
      · simp [Builtin.lenOf, ByteArray.size]
      · simp only [Builtin.firstCells, extract_mk]
        simp
    · simp at he
  · simp at he

/-- The append that takes a new row. -/
theorem run_append_new (w : World) (ts : Array TypeId) (ty t e : TypeId) (i : TypeInfo) (z : Value) (s x : Value) (base : Option Addr) (sLen sCap n : Nat) (olds news : List Value)
    (h0 : ts[0]? = some t) (ht : P.underlying t = some (.slice e)) (hp : plainArg P ts[1]? = true) (hi : P.info? e = some i) (hz : i.zero = some z) (hs : s = .slice base sLen sCap)
    (hn : (Builtin.lenOf x).run P w = .ok n w) (hf : (Builtin.firstCells i.size n x).run P w.drew = .ok news.toArray w.drew)
    (ho : (Builtin.firstCells i.size sLen s).run P w.drew = .ok olds.toArray w.drew)
    (hg : sCap < sLen + n) (hbig : sLen + n ≤ 2 ^ 24) (hby : i.bytes ≤ 2 ^ 12) :
    (Builtin.append_ ts ty #[s, x]).run P w =
      .ok (.slice (some ⟨w.heap.size, 0, none⟩) (sLen + n) (grownCap w (sLen + n) sCap e))
        (w.drew.alloc (.cells (olds.toArray ++ news.toArray ++ Builtin.zeroCells z.cells (grownCap w (sLen + n) sCap e - (sLen + n))) e)) := by
  subst hs
  have hn1 : ¬ (sLen + n ≤ sCap) := by omega
  have h63' : ¬ (9223372036854775807 < ((sLen : Int) + (n : Int))) := by omega
  have hfit : Builtin.nextslicecap (sLen + n) sCap * i.bytes ≤ 281474976710656 := growslice_fits hg (by
    calc (sLen + n) * i.bytes ≤ 2 ^ 24 * 2 ^ 12 := Nat.mul_le_mul hbig hby
      _ ≤ 140737488355328 := by decide)
  have h48' : ¬ (281474976710656 < Builtin.nextslicecap (sLen + n) sCap * i.bytes) := by omega
  have fin : ∀ (A : Array Value) , olds.toArray ++ (news.toArray ++ A) = olds.toArray ++ news.toArray ++ A := fun A => by rw [Array.append_assoc]
  unfold plainArg at hp
  cases h1 : ts[1]? with
  | none =>
    simp [Builtin.append_, h0, h1, run_underlying ht, sizeOf, typeInfo, zeroValue, hi, hz, hn, hn1, h63', h48', Question.forced, hf, ho, newRow, grownCap]
    congr 2
    apply Array.ext'
    simp [List.append_assoc]
  | some u =>
    rw [h1] at hp
    simp only at hp
    cases hu : P.underlying u with
    | none => simp [hu] at hp
    | some d =>
      have hd : ∀ k, d ≠ .int k := by rintro k rfl; simp [hu] at hp
      have hm : (match d with | .int _ => true | _ => false) = false := by
        cases d <;> first | rfl | exact absurd rfl (hd _)
      simp [Builtin.append_, h0, h1, run_underlying ht, run_underlying hu, sizeOf, typeInfo, zeroValue, hi, hz, hn, hn1, h63', h48', Question.forced, hf, ho, newRow, grownCap, hm]
      congr 2
      apply Array.ext'
      simp [List.append_assoc]

/-- The append that stays in its row. -/
theorem run_append_stay (w w' : World) (ts : Array TypeId) (ty t e : TypeId) (i : TypeInfo) (s x : Value) (b : Addr) (sLen sCap n : Nat) (news : List Value)
    (h0 : ts[0]? = some t) (ht : P.underlying t = some (.slice e)) (hp : plainArg P ts[1]? = true) (hi : P.info? e = some i) (hs : s = .slice (some b) sLen sCap)
    (hn : (Builtin.lenOf x).run P w = .ok n w) (hf : (Builtin.firstCells i.size n x).run P w = .ok news.toArray w)
    (hst : (storeCells (b.add (sLen * i.size)) news).run P w = .ok () w') (hg : sLen + n ≤ sCap) :
    (Builtin.append_ ts ty #[s, x]).run P w = .ok (.slice (some b) (sLen + n) sCap) w' := by
  subst hs
  unfold plainArg at hp
  cases h1 : ts[1]? with
  | none =>
    simp [Builtin.append_, h0, h1, run_underlying ht, sizeOf, typeInfo, hi, hn, hg, hf, hst]
  | some u =>
    rw [h1] at hp
    simp only at hp
    cases hu : P.underlying u with
    | none => simp [hu] at hp
    | some d =>
      have hd : ∀ k, d ≠ .int k := by rintro k rfl; simp [hu] at hp
      have hm : (match d with | .int _ => true | _ => false) = false := by
        cases d <;> first | rfl | exact absurd rfl (hd _)
      simp [Builtin.append_, h0, h1, run_underlying ht, run_underlying hu, sizeOf, typeInfo, hi, hn, hg, hf, hst, hm]

/-- The append of nothing to nothing. -/
theorem run_append_none (w : World) (ts : Array TypeId) (ty t e : TypeId) (i : TypeInfo) (x : Value)
    (h0 : ts[0]? = some t) (ht : P.underlying t = some (.slice e)) (hp : plainArg P ts[1]? = true) (hi : P.info? e = some i)
    (hn : (Builtin.lenOf x).run P w = .ok 0 w) (hf : (Builtin.firstCells i.size 0 x).run P w = .ok #[] w) :
    (Builtin.append_ ts ty #[.slice none 0 0, x]).run P w = .ok (.slice none 0 0) w := by
  unfold plainArg at hp
  cases h1 : ts[1]? with
  | none => simp [Builtin.append_, h0, h1, run_underlying ht, sizeOf, typeInfo, hi, hn, hf]
  | some u =>
    rw [h1] at hp
    simp only at hp
    cases hu : P.underlying u with
    | none => simp [hu] at hp
    | some d =>
      have hd : ∀ k, d ≠ .int k := by rintro k rfl; simp [hu] at hp
      have hm : (match d with | .int _ => true | _ => false) = false := by
        cases d <;> first | rfl | exact absurd rfl (hd _)
      simp [Builtin.append_, h0, h1, run_underlying ht, run_underlying hu, sizeOf, typeInfo, hi, hn, hf, hm]

/-- What a new row of an append is. -/
theorem grown_ok (h : Rel E ρ H w) {e : TypeId} {cells : List AV} {news : List Value} {z : Value} {need sz c : Nat} (hv : vals E ρ cells news) (hl : news.length = need * sz) (hz : z.cells.size = sz) (hc : need ≤ c) :
    ∃ ρ', val E ρ' (.slice (some (H.next, 0)) need need false sz) (.slice (some ⟨w.heap.size, 0, none⟩) need c) ∧
      Rel E ρ' (H.push (.cells cells e true false)) (w.drew.alloc (.cells (news.toArray ++ Builtin.zeroCells z.cells (c - need)) e)) ∧
      Step ρ H w ρ' (H.push (.cells cells e true false)) (w.drew.alloc (.cells (news.toArray ++ Builtin.zeroCells z.cells (c - need)) e)) := by
  have hnone : ρ H.next = none := by
    cases e : ρ H.next with
    | none => rfl
    | some x => have := (h.dom _ x.1 x.2 e).1; omega
  have hsize : (news.toArray ++ Builtin.zeroCells z.cells (c - need)).size = c * sz := by
    have e1 : (Builtin.zeroCells z.cells (c - need)).size = (c - need) * sz := by simp [Builtin.zeroCells, hz]
    have e2 : c * sz = need * sz + (c - need) * sz := by rw [← Nat.add_mul]; congr 1; omega
    simp only [Array.size_append, List.size_toArray]
    omega
  have h' := h.drew (w.drawn + 1)
  have hlen := vals_length hv
  obtain ⟨q1, q2⟩ := Rel.push (w := w.drew) h' (.cells (news.toArray ++ Builtin.zeroCells z.cells (c - need)) e) (.cells cells e true false) (c * sz) (by
    simp only [blkRel]
    refine ⟨_, by show (w.heap.push _)[w.heap.size]? = _; simp, hsize, ?_, by simp, fun k a hk => ?_⟩
    · have : need * sz ≤ c * sz := Nat.mul_le_mul_right _ hc
      omega
    · obtain ⟨v, g1, g2⟩ := vals_get hv hk
      refine ⟨v, ?_, val_mono (upd_le hnone) _ _ g2⟩
      have hlt : k < news.length := (List.getElem?_eq_some_iff.1 g1).1
      rw [Array.getElem?_append_left (by simpa using hlt)]
      simpa using g1)
  refine ⟨_, ?_, q1, (Step.drew ρ H w _).trans q2⟩
  simp only [val]
  exact ⟨w.heap.size, c * sz, c, upd_self, rfl, hc, by simp, by omega⟩

theorem append_ok (hE : E.Ok) (h : Rel E ρ H w) {ts : Array TypeId} {ty t : TypeId} {s x a : AV} {u v : Value} {H' : Heap} (h0 : ts[0]? = some t) (hs : val E ρ s u) (hx : val E ρ x v)
    (he : appendA P H t ts[1]? s x = some (a, H')) :
    ∃ z w' ρ', (Builtin.append_ ts ty #[u, v]).run P w = .ok z w' ∧ val E ρ' a z ∧ Rel E ρ' H' w' ∧ Step ρ H w ρ' H' w' := by
  unfold appendA at he
  split at he
  · rename_i e hu
    split at he
    · rename_i info zs hi hz hp
      simp only at he
      split at he
      · simp at he
      · rename_i n xs hadd
        split at he
        · simp at he
        · rename_i hby
          simp only [not_or, Nat.not_lt, ne_eq, Decidable.not_not] at hby
          obtain ⟨hby, hzl⟩ := hby
          obtain ⟨z, i', _, hi', hz', hzv, _⟩ := zero_cells (P := P) (ρ := ρ) (w := w) hE hz
          rw [hi] at hi'
          simp only [Option.some.injEq] at hi'
          subst hi'
          have hzs : z.cells.size = info.size := by have := vals_length hzv; simp at this; omega
          obtain ⟨us, a1, a2, a3, a4, a5, a6⟩ := added_ok (P := P) h.toRd hE hx hadd
          obtain ⟨us', b1, b2, b3, b4, b5, b6⟩ := added_ok (P := P) (h.toRd.drew (w.drawn + 1)) hE hx hadd
          split at he
          · simp only [val] at hs
            obtain ⟨_, _, rfl⟩ := hs
            split at he
            · rename_i hn
              subst hn
              simp only [Option.some.injEq, Prod.mk.injEq] at he
              obtain ⟨rfl, rfl⟩ := he
              have hus : us = [] := by
                have : us.length = 0 := by omega
                exact List.length_eq_zero_iff.1 this
              subst hus
              exact ⟨_, w, ρ, run_append_none w ts ty t e info v h0 hu hp hi a5 a6, by simp [val], h, Step.refl ρ H w⟩
            · rename_i hn
              split at he
              · simp at he
              · rename_i hbig
                simp only [Option.some.injEq, Prod.mk.injEq] at he
                obtain ⟨rfl, rfl⟩ := he
                have hrun := run_append_new (P := P) w ts ty t e info z (.slice none 0 0) v none 0 0 n [] us' h0 hu hp hi hz' rfl a5 b6 (by simp [Builtin.firstCells]) (by omega) (by omega) hby
                simp only [Nat.zero_add] at hrun
                obtain ⟨ρ', g1, g2, g3⟩ := grown_ok (w := w) h (e := e) b3 b1 hzs (grownCap_ge w n 0 e)
                have ee : (#[] : Array Value) ++ us'.toArray = us'.toArray := by simp
                rw [ee] at hrun
                exact ⟨_, _, ρ', hrun, g1, g2, g3⟩
          · rename_i i o len c ex zz
            split at he
            · rename_i vs e' lo ro hg
              split at he
              · simp at he
              · rename_i hze
                simp only [not_or, ne_eq, Decidable.not_not] at hze
                obtain ⟨rfl, rfl⟩ := hze
                obtain ⟨b, m, c', hρ, rfl, hcc, hex, hroom⟩ := val_slice hs
                split at he
                · rename_i hfit
                  split at he
                  · rename_i hn
                    subst hn
                    simp only [Option.some.injEq, Prod.mk.injEq] at he
                    obtain ⟨rfl, rfl⟩ := he
                    have hus : us = [] := by
                      have : us.length = 0 := by omega
                      exact List.length_eq_zero_iff.1 this
                    subst hus
                    exact ⟨_, w, ρ, run_append_stay w w ts ty t _ info _ v ⟨b, o, none⟩ len c' 0 [] h0 hu hp hi rfl a5 a6 (by simp [storeCells]) (by omega), hs, h, Step.refl ρ H w⟩
                  · split at he
                    · rename_i hn hcond
                      obtain ⟨rfl, hlen⟩ := hcond
                      simp only [Option.some.injEq, Prod.mk.injEq] at he
                      obtain ⟨rfl, rfl⟩ := he
                      obtain ⟨w', k1, k2, k3⟩ := write_ok (P := P) h hρ hg a3 a4 (o := o + len * info.size) (by omega)
                      refine ⟨_, w', ρ, run_append_stay w w' ts ty t _ info _ v ⟨b, o, none⟩ len c' n us h0 hu hp hi rfl a5 a6 (by rw [Addr.add_lit]; exact k1) (by omega), ?_, k2, k3⟩
                      simp only [val]
                      exact ⟨b, m, c', hρ, rfl, hcc, hex, hroom⟩
                    · simp at he
                · rename_i hnofit
                  split at he
                  · simp at he
                  · rename_i hbig
                    split at he
                    · simp at he
                    · rename_i old hold
                      obtain ⟨os, o1, o2, o3⟩ := h.toRd.run hρ hg hold
                      obtain ⟨os', p1, p2, p3⟩ := (h.toRd.drew (w.drawn + 1)).run hρ hg hold
                      have holdf : (Builtin.firstCells info.size len (.slice (some ⟨b, o, none⟩) len c')).run P w.drew = .ok os'.toArray w.drew :=
                        run_firstCells_some (P := P) w.drew info.size len ⟨b, o, none⟩ len c' os' p1 p3
                      have hnew : vals E ρ (old ++ xs) (os' ++ us') := vals_append p2 b3
                      have hnl : (os' ++ us').length = (len + n) * info.size := by rw [List.length_append, p1, b1, Nat.add_mul]
                      have realloc : c' < len + n → ∃ z' w' , (Builtin.append_ ts ty #[.slice (some ⟨b, o, none⟩) len c', v]).run P w = .ok z' w' ∧
                          z' = .slice (some ⟨w.heap.size, 0, none⟩) (len + n) (grownCap w (len + n) c' e') ∧
                          w' = w.drew.alloc (.cells ((os' ++ us').toArray ++ Builtin.zeroCells z.cells (grownCap w (len + n) c' e' - (len + n))) e') := by
                        intro hlt
                        have hrun := run_append_new (P := P) w ts ty t e' info z _ v (some ⟨b, o, none⟩) len c' n os' us' h0 hu hp hi hz' rfl a5 b6 holdf hlt (by omega) hby
                        have ee : os'.toArray ++ us'.toArray = (os' ++ us').toArray := by simp
                        rw [ee] at hrun
                        exact ⟨_, _, hrun, rfl, rfl⟩
                      split at he
                      · rename_i hex'
                        simp only [Option.some.injEq, Prod.mk.injEq] at he
                        obtain ⟨rfl, rfl⟩ := he
                        have hc' := hex hex'
                        obtain ⟨z', w', hrun, rfl, rfl⟩ := realloc (by omega)
                        obtain ⟨ρ', g1, g2, g3⟩ := grown_ok (w := w) h (e := e') hnew hnl hzs (grownCap_ge w (len + n) c' e')
                        exact ⟨_, _, ρ', hrun, g1, g2, g3⟩
                      · split at he
                        · rename_i hcond
                          obtain ⟨rfl, rfl⟩ := hcond
                          simp only [Option.some.injEq, Prod.mk.injEq] at he
                          obtain ⟨rfl, rfl⟩ := he
                          by_cases hlt : c' < len + n
                          · obtain ⟨z', w', hrun, rfl, rfl⟩ := realloc hlt
                            obtain ⟨d1, d2⟩ := h.set hρ hg rfl rfl w ⟨rfl, rfl, rfl, rfl, fun _ _ => rfl⟩ (C := .dead) (by simp [blkRel])
                            obtain ⟨ρ', g1, g2, g3⟩ := grown_ok (w := w) d1 (e := e') hnew hnl hzs (grownCap_ge w (len + n) c' e')
                            exact ⟨_, _, ρ', hrun, g1, g2, d2.trans g3⟩
                          · obtain ⟨cs, hb, hm, _, _, hcell⟩ := h.toRd.cells hρ hg
                            have hneed : (len + n) * info.size ≤ c' * info.size := Nat.mul_le_mul_right _ (by omega)
                            have hsum : (len + n) * info.size = len * info.size + n * info.size := Nat.add_mul _ _ _
                            have hst := run_storeCells_at P b (len * info.size) e' us 0 cs w hb (by omega) a4
                            simp only [Nat.add_zero] at hst
                            have hrow := setRow_heap w b cs (cs.toList.take (len * info.size) ++ us ++ cs.toList.drop (len * info.size + us.length)).toArray e' (0, 0) hb
                            have hother := fun j hj => setRow_other w b j (cs.toList.take (len * info.size) ++ us ++ cs.toList.drop (len * info.size + us.length)).toArray hj
                            have hsz := size_setRow w b (cs.toList.take (len * info.size) ++ us ++ cs.toList.drop (len * info.size + us.length)).toArray
                            have hrun := run_append_stay (P := P) w _ ts ty t e' info _ v ⟨b, 0, none⟩ len c' n us h0 hu hp hi rfl a5 a6 (by rw [Addr.add_lit, Nat.zero_add]; exact hst) (by omega)
                            have hcl : cs.toList.length = cs.size := by simp
                            have hpos : ∀ k, (cs.toList.take (len * info.size) ++ us ++ cs.toList.drop (len * info.size + us.length))[k]? = if len * info.size ≤ k ∧ k < len * info.size + us.length then us[k - len * info.size]? else cs.toList[k]? :=
                              fun k => row_get cs.toList us (len * info.size) k (by omega)
                            have hlenArr : (cs.toList.take (len * info.size) ++ us ++ cs.toList.drop (len * info.size + us.length)).length = m := by simp; omega
                            generalize hw' : w.setRow b (cs.toList.take (len * info.size) ++ us ++ cs.toList.drop (len * info.size + us.length)).toArray = w' at hrun hrow hother hsz
                            have hos : w'.os = w.os ∧ w'.tape = w.tape ∧ w'.output = w.output := by subst hw'; exact ⟨rfl, rfl, rfl⟩
                            obtain ⟨d1, d2⟩ := h.set hρ hg rfl rfl w' ⟨hos.1, hos.2.1, hos.2.2, hsz, hother⟩ (C := .dead) (by simp [blkRel])
                            have hnone : ρ H.next = none := by
                              cases e : ρ H.next with
                              | none => rfl
                              | some x => have := (h.dom _ x.1 x.2 e).1; omega
                            have hle := upd_le (x := (b, m)) hnone
                            have hilt := Heap.get_lt hg
                            obtain ⟨hold1, hold2, hold3⟩ := getCells_some hold
                            have d3 := d1.alias (b := b) (m := m) (B := .cells (old ++ xs) e' true false) ⟨i, hρ⟩ (h.dom i b m hρ |>.2 |> fun hlt' => by rw [hsz]; exact hlt') (by
                              intro j m' C hj hC
                              rw [Heap.get_set _ _ _ hilt] at hC
                              split at hC
                              · simp only [Option.some.injEq] at hC; subst hC; rfl
                              · rename_i hne
                                cases hal : C.alive with
                                | false => rfl
                                | true => exact absurd (h.inj j i b m' m C _ hj hρ hC hg hal rfl) hne) (by
                              simp only [blkRel]
                              refine ⟨_, hrow, by simpa using hlenArr, by simp [hold2, a2]; omega, by simp, fun k q hk => ?_⟩
                              simp only [List.getElem?_toArray]
                              rw [hpos k]
                              by_cases hk1 : k < len * info.size
                              · rw [if_neg (by omega)]
                                rw [List.getElem?_append_left (by omega)] at hk
                                have hk2 := getCells_get hold k hk1
                                rw [hk2] at hk
                                obtain ⟨q', e1, e2⟩ := hcell _ _ hk
                                rw [Nat.zero_add] at e1
                                exact ⟨q', by simpa using e1, val_mono hle _ _ e2⟩
                              · rw [List.getElem?_append_right (by omega), hold2] at hk
                                obtain ⟨q', e1, e2⟩ := vals_get a3 hk
                                have hlt2 : k - len * info.size < us.length := (List.getElem?_eq_some_iff.1 e1).1
                                rw [if_pos (by omega)]
                                exact ⟨q', e1, val_mono hle _ _ e2⟩)
                            refine ⟨_, w', _, hrun, ?_, d3, ?_⟩
                            · simp only [val]
                              exact ⟨b, m, c', by exact upd_self, rfl, by omega, by simp, by omega⟩
                            · refine ⟨d2.os, d2.tape, d2.output, d2.size, hle, ?_, ?_, d2.keep, ?_⟩
                              · intro j y hy
                                change (if j = H.next then some (b, m) else ρ j) = some y at hy
                                split at hy
                                · right; omega
                                · exact .inl hy
                              · show H.next ≤ H.next + 1
                                omega
                              · rintro b0 hb0 ⟨j, m', D, hj, hD, hD1, hD2⟩
                                rw [Heap.get_push] at hD
                                change (if j = H.next then some (b, m) else ρ j) = some (b0, m') at hj
                                change (if j = H.next then some (ABlk.cells (old ++ xs) e' true false) else (H.set i .dead).get j) = some D at hD
                                by_cases ej : j = H.next
                                · rw [if_pos ej] at hj
                                  simp only [Option.some.injEq, Prod.mk.injEq] at hj
                                  obtain ⟨rfl, rfl⟩ := hj
                                  exact ⟨i, m, _, hρ, hg, rfl, rfl⟩
                                · rw [if_neg ej] at hj hD
                                  exact d2.new b0 hb0 ⟨j, m', D, hj, hD, hD1, hD2⟩
                        · simp at he
            · simp at he
          · simp at he
    · simp at he
  · simp at he

end
end Go.Ev

/- One operation. -/
set_option linter.unusedVariables false
set_option linter.unusedSimpArgs false
namespace Go.Ev

/-- A call that waits. -/
def dOk (E : Env) (P : Program) (ρ : Rho) (g : FuncId) (args : List AV) (d : Deferred) : Prop :=
  ∃ cap vs, d.target = .fn (.func g) cap ∧ (∀ w, (invoke d.target d.args).run P w = .ok (.enter g vs) w) ∧ vals E ρ args vs.toList

def OpOk (E : Env) (P : Program) (ρ : Rho) (H : Heap) (w : World) (s : Sem Next) : OpR → Prop
  | .val x => ∃ v, s.run P w = .ok (.value v) w ∧ val E ρ x v
  | .new mk B => ∃ (o : Obj) (m : Nat) (v : Nat → Value), (∀ w, s.run P w = .ok (.value (v w.heap.size)) (w.alloc o)) ∧
      ∀ (ρ' : Rho) (w : World) (n b : Nat), ρ.le ρ' → ρ' n = some (b, m) → w.heap[b]? = some o → val E ρ' (mk n) (v b) ∧ blkRel E ρ' w b m B
  | .wr x H' => ∃ v w' ρ', s.run P w = .ok (.value v) w' ∧ val E ρ' x v ∧ Rel E ρ' H' w' ∧ Step ρ H w ρ' H' w'
  | .skip H' => ∃ w', s.run P w = .ok .skip w' ∧ Rel E ρ H' w' ∧ Step ρ H w ρ H' w'
  | .enter f args => ∃ vs, s.run P w = .ok (.enter f vs) w ∧ vals E ρ args vs.toList
  | .defer f args => ∃ d, s.run P w = .ok (.defer d) w ∧ dOk E P ρ f args d

section
variable {E : Env} {ρ : Rho} {P : Program} {F : Facts} {H : Heap} {w : World}

theorem ok_val {s : Sem Value} {r : Option AV} {x : OpR} (hr : ret r = some x) (h : ∀ a, r = some a → ∃ u, s.run P w = .ok u w ∧ val E ρ a u) :
    OpOk E P ρ H w (do pure (.value (← s))) x := by
  cases r with
  | none => simp [ret] at hr
  | some a =>
    simp only [ret, Option.map_some, Option.some.injEq] at hr
    subst hr
    obtain ⟨u, h1, h2⟩ := h a rfl
    exact ⟨u, by simp [h1], h2⟩

theorem ok_new {s : Sem Value} {r : NewA} {x : OpR} (hr : retN r = some x) (h : ∀ mk B, r = some (mk, B) → NewOk E P ρ mk B s) :
    OpOk E P ρ H w (do pure (.value (← s))) x := by
  cases r with
  | none => simp [retN] at hr
  | some a =>
    obtain ⟨mk, B⟩ := a
    simp only [retN, Option.map_some, Option.some.injEq] at hr
    subst hr
    obtain ⟨o, m, v, h1, h2⟩ := h mk B rfl
    exact ⟨o, m, v, fun w => by simp [h1 w], h2⟩

theorem ok_wr {s : Sem Value} {r : Option (AV × Heap)} {x : OpR} (hr : ret2 r = some x)
    (h : ∀ a H', r = some (a, H') → ∃ z w' ρ', s.run P w = .ok z w' ∧ val E ρ' a z ∧ Rel E ρ' H' w' ∧ Step ρ H w ρ' H' w') :
    OpOk E P ρ H w (do pure (.value (← s))) x := by
  cases r with
  | none => simp [ret2] at hr
  | some a =>
    obtain ⟨a, H'⟩ := a
    simp only [ret2, Option.map_some, Option.some.injEq] at hr
    subst hr
    obtain ⟨z, w', ρ', h1, h2, h3, h4⟩ := h a H' rfl
    exact ⟨z, w', ρ', by simp [h1], h2, h3, h4⟩

theorem ok_skip {s : Sem Unit} {r : Option Heap} {x : OpR} (hr : retH r = some x) (h : ∀ H', r = some H' → ∃ w', s.run P w = .ok () w' ∧ Rel E ρ H' w' ∧ Step ρ H w ρ H' w') :
    OpOk E P ρ H w (do s; pure .skip) x := by
  cases r with
  | none => simp [retH] at hr
  | some H' =>
    simp only [retH, Option.map_some, Option.some.injEq] at hr
    subst hr
    obtain ⟨w', h1, h2, h3⟩ := h H' rfl
    exact ⟨w', by simp [h1], h2, h3⟩

theorem vals_map {ts : List AV} {a : Act} (h : vals E ρ ts a.tmps.toList) (xs : List Operand) : vals E ρ (xs.map (evA ts)) (xs.map a.eval) := by
  induction xs with
  | nil => exact vals_nil
  | cons x xs ih => exact vals_cons (evA_val h x) ih

theorem vals_map' {ts : List AV} {a : Act} (h : vals E ρ ts a.tmps.toList) (xs : Array Operand) : vals E ρ (xs.toList.map (evA ts)) (xs.map a.eval).toList := by
  rw [Array.toList_map]
  exact vals_map h xs.toList

theorem enters_run {f : FuncId} {vs : Array Value} (h : enters P f = true) : (callFunc f vs).run P w = .ok (.enter f vs) w := by
  unfold enters at h
  cases hf : P.funcs[f]? with
  | none => simp [hf] at h
  | some fn =>
    simp only [hf, Bool.and_eq_true, bne_iff_ne, ne_eq] at h
    obtain ⟨c, hb⟩ := Option.isSome_iff_exists.1 h.1
    simp [callFunc, hf, h.2, hb]

theorem func_call {e : AV} {u : Value} {g : FuncId} {xs ys zs : List AV} {us : Array Value} (hu : val E ρ (.func g xs ys) u) (hz : vals E ρ zs us.toList) :
    ∃ first cap, u = .func (.func g) first cap ∧ vals E ρ (xs ++ zs ++ ys) (first ++ us ++ cap).toList := by
  simp only [val] at hu
  obtain ⟨first, cap, rfl, h1, h2⟩ := hu
  refine ⟨first, cap, rfl, ?_⟩
  simp only [Array.toList_append]
  exact vals_append (vals_append h1 hz) h2

theorem op_ok (hE : E.Ok) (hF : FactsOk E P F) (h : Rel E ρ H w) {ts : List AV} {a : Act} (hv : vals E ρ ts a.tmps.toList) {o : Oper} {r : OpR} (he : opA P F (evA ts) o H = some r) :
    OpOk E P ρ H w (execOp a.eval o) r := by
  have ev := fun x => evA_val hv x
  unfold opA at he
  unfold execOp
  cases ho : o.op with
  | move x => rw [ho] at he; simp only [Option.some.injEq] at he; subst he; exact ⟨_, by simp, ev x⟩
  | assign x => rw [ho] at he; simp only [Option.some.injEq] at he; subst he; exact ⟨_, by simp, ev x⟩
  | pick c x y =>
    rw [ho] at he
    simp only at he
    split at he
    · rename_i t ht
      simp only [Option.some.injEq] at he
      subst he
      have hc := ev c
      rw [ht] at hc
      refine ⟨if t then a.eval x else a.eval y, by simp [val_bool hc, asBool], ?_⟩
      cases t
      · exact ev y
      · exact ev x
    · simp at he
  | alloc t => rw [ho] at he; exact ok_new he fun mk B hb => alloc_ok hE hb
  | box t x => rw [ho] at he; exact ok_new he fun mk B hb => box_ok hE (ev x) hb
  | build t ps => rw [ho] at he; exact ok_val he fun z hz => build_ok hE hv hz
  | buildSlice t n ps => rw [ho] at he; exact ok_new he fun mk B hb => buildSlice_ok hE hv hb
  | load t x => rw [ho] at he; exact ok_val he fun z hz => load_ok h.toRd (ev x) hz
  | store t x y => rw [ho] at he; exact ok_skip he fun H' hH => store_ok hE h (ev x) (ev y) hH
  | nilCheck x =>
    rw [ho] at he
    simp only at he
    split at he
    · rename_i p hp
      simp only [Option.some.injEq] at he
      subst he
      have hx := ev x
      rw [hp] at hx
      obtain ⟨i, o⟩ := p
      obtain ⟨b, m, _, hb⟩ := val_ptr hx
      simp only [hb]
      rw [hb] at hx
      exact ⟨.pointer (some ⟨b, o, none⟩), by simp, hx⟩
    · rename_i f xs ys hp
      simp only [Option.some.injEq] at he
      subst he
      have hx := ev x
      rw [hp] at hx
      have hx' := hx
      simp only [val] at hx'
      obtain ⟨us, ws, hb, _, _⟩ := hx'
      simp only [hb]
      rw [hb] at hx
      exact ⟨.func (.func f) us ws, by simp, hx⟩
    · simp at he
  | binOp op t x y c => rw [ho] at he; exact ok_val he fun z hz => bin_ok hF h.toRd (ev x) (ev y) hz
  | unOp op t x => rw [ho] at he; exact ok_val he fun z hz => un_ok (ev x) hz
  | convert s d x => rw [ho] at he; exact ok_val he fun z hz => conv_ok h.toRd (ev x) hz
  | makeInterface t x =>
    rw [ho] at he
    simp only at he
    split at he
    · simp at he
    · simp at he
    · rename_i d hni hd
      simp only [Option.some.injEq] at he
      subst he
      refine ⟨.iface t (a.eval x), ?_, by simp only [val]; exact ⟨_, rfl, ev x⟩⟩
      cases d with
      | interface m => exact absurd hd (by simpa using hni m)
      | _ => simp [Instr.makeInterface, run_underlying hd]
  | makeFunc fn first captured =>
    rw [ho] at he
    simp only at he
    split at he
    · simp only [Option.some.injEq] at he
      subst he
      refine ⟨.func (.func _) (first.map a.eval) (captured.map a.eval), by simp [Instr.makeFunc]; rfl, ?_⟩
      simp only [val]
      exact ⟨_, _, rfl, vals_map' hv first, vals_map' hv captured⟩
    · simp at he
  | makeMap t x => rw [ho] at he; exact ok_new he fun mk B hb => makeMap_ok (orel_map hv x) hb
  | makeSlice t l c => rw [ho] at he; exact ok_new he fun mk B hb => makeSlice_ok hE (ev l) (ev c) hb
  | slice t x lo hi mx => rw [ho] at he; exact ok_val he fun z hz => slice_ok hF (ev x) (orel_map hv lo) (orel_map hv hi) (orel_map hv mx) hz
  | fieldAddr s x f => rw [ho] at he; exact ok_val he fun z hz => fieldAddr_ok (ev x) hz
  | field t x f => rw [ho] at he; exact ok_val he fun z hz => field_ok (ev x) hz
  | indexAddr t x i => rw [ho] at he; exact ok_val he fun z hz => indexAddr_ok (ev x) (ev i) hz
  | index t x i => rw [ho] at he; exact ok_val he fun z hz => index_ok hF (ev x) (ev i) hz
  | lookup t x i ok => rw [ho] at he; exact ok_val he fun z hz => lookup_ok h.toRd (ev x) (ev i) hz
  | mapUpdate t m k x => rw [ho] at he; exact ok_skip he fun H' hH => mapUpdate_ok h (ev m) (ev k) (ev x) hH
  | insert t m k x => rw [ho] at he; exact ok_skip he fun H' hH => mapUpdate_ok h (ev m) (ev k) (ev x) hH
  | extract t i =>
    rw [ho] at he
    simp only at he
    split at he
    · rename_i l hl
      have ht := ev t
      rw [hl] at ht
      simp only [val] at ht
      obtain ⟨us, hu, hx⟩ := ht
      refine ok_val he fun z hz => ?_
      obtain ⟨v, h1, h2⟩ := vals_get hx hz
      exact ⟨v, by simp at h1; simp [Instr.extract, hu, h1], h2⟩
    · simp at he
  | call c =>
    rw [ho] at he
    simp only at he
    cases hc : c.callee with
    | builtin b =>
      rw [hc] at he
      simp only at he
      have hargs := vals_map' hv c.args
      have hres : (do let d ← resolve a.eval c o.type; invoke d.target d.args : Sem Next) = builtin b c.argTypes o.type (c.args.map fun | .const _ => true | _ => false) (c.args.map a.eval) := by
        simp only [resolve, hc]
        rfl
      show OpOk E P ρ H w (do let d ← resolve a.eval c o.type; invoke d.target d.args) r
      rw [hres]
      unfold builtinA at he
      split at he
      · rename_i t rest x rest' hts hargs'
        refine ok_val (s := Builtin.len_ _ _ _) he fun z hz => ?_
        rw [hargs'] at hargs
        simp only [vals] at hargs
        obtain ⟨v, r, hvs, hxv, _⟩ := hargs
        refine len_ok hF h.toRd (v := v) ?_ ?_ hxv hz
        · rw [← Array.getElem?_toList, hts]; rfl
        · rw [← Array.getElem?_toList, hvs]; rfl
      · rename_i t us s x hts hargs'
        rw [hargs'] at hargs
        simp only [vals] at hargs
        obtain ⟨v, r, hvs, hsv, v', r', hr, hxv, hr'⟩ := hargs
        subst hr
        subst hr'
        have hvs' : c.args.map a.eval = #[v, v'] := Array.ext' hvs
        rw [hvs']
        refine ok_wr (s := Builtin.append_ _ _ _) he fun z H' hz => append_ok hE h (t := t) ?_ hsv hxv ?_
        · rw [← Array.getElem?_toList, hts]; rfl
        · have e : c.argTypes[1]? = us.head? := by rw [← Array.getElem?_toList, hts]; cases us <;> rfl
          rw [e]
          exact hz
      · refine ok_val (s := Builtin.max_ _ _ _) he fun z hz => ?_
        have := mm_ok (P := P) (w := w) (ts := c.argTypes) (t := o.type) (.inl rfl) hargs hz
        simpa using this
      · refine ok_val (s := Builtin.min_ _ _ _) he fun z hz => ?_
        have := mm_ok (P := P) (w := w) (ts := c.argTypes) (t := o.type) (.inr rfl) hargs hz
        simpa using this
      · simp at he
    | value f =>
      rw [hc] at he
      simp only at he
      split at he
      · rename_i g xs ys hg
        split at he
        · rename_i hen
          simp only [Option.some.injEq] at he
          subst he
          have hf := ev f
          rw [hg] at hf
          obtain ⟨first, cap, hu, hall⟩ := func_call (e := .any) hf (vals_map' hv c.args)
          refine ⟨first ++ c.args.map a.eval ++ cap, ?_, hall⟩
          simp [resolve, hc, hu, Deferred.ofValue, invoke, enters_run hen]
        · simp at he
      · simp at he
    | invoke x n => rw [hc] at he; simp at he
  | defer c =>
    rw [ho] at he
    simp only at he
    cases hc : c.callee with
    | builtin b => rw [hc] at he; simp at he
    | value f =>
      rw [hc] at he
      simp only at he
      split at he
      · rename_i g xs ys hg
        split at he
        · rename_i hen
          simp only [Option.some.injEq] at he
          subst he
          have hf := ev f
          rw [hg] at hf
          obtain ⟨first, cap, hu, hall⟩ := func_call (e := .any) hf (vals_map' hv c.args)
          refine ⟨{ target := .fn (.func g) cap, args := first ++ c.args.map a.eval }, ?_, cap, first ++ c.args.map a.eval ++ cap, rfl, fun w => ?_, hall⟩
          · simp [resolve, hc, hu, Deferred.ofValue]
          · simp [invoke, enters_run hen]
        · simp at he
      · simp at he
    | invoke x n => rw [hc] at he; simp at he
  | _ => rw [ho] at he; simp at he

end
end Go.Ev

/- Regions in the order of the text. -/
set_option linter.unusedVariables false
set_option linter.unusedSimpArgs false
namespace Go.Ev

def dsOk (E : Env) (P : Program) (ρ : Rho) : List (FuncId × List AV) → List Deferred → Prop
  | [], ds => ds = []
  | (g, args) :: r, ds => ∃ d ds', ds = d :: ds' ∧ dOk E P ρ g args d ∧ dsOk E P ρ r ds'

theorem dOk_mono {E : Env} {P : Program} {ρ ρ' : Rho} (h : ρ.le ρ') {g : FuncId} {args : List AV} {d : Deferred} (hd : dOk E P ρ g args d) : dOk E P ρ' g args d := by
  obtain ⟨cap, vs, h1, h2, h3⟩ := hd
  exact ⟨cap, vs, h1, h2, vals_mono h _ _ h3⟩

theorem dsOk_mono {E : Env} {P : Program} {ρ ρ' : Rho} (h : ρ.le ρ') : ∀ (l : List (FuncId × List AV)) (ds : List Deferred), dsOk E P ρ l ds → dsOk E P ρ' l ds
  | [], ds, hd => hd
  | (g, args) :: r, ds, hd => by
    simp only [dsOk] at hd ⊢
    obtain ⟨d, ds', e, h1, h2⟩ := hd
    exact ⟨d, ds', e, dOk_mono h h1, dsOk_mono h r ds' h2⟩

/-- The state of a frame and of the world beside the evaluator's. -/
structure SOk (E : Env) (P : Program) (ρ0 : Rho) (H0 : Heap) (w0 : World) (s : St) (a : Act) (w : World) (ρ : Rho) : Prop where
  ts : vals E ρ s.ts a.tmps.toList
  rel : Rel E ρ s.H w
  step : Step ρ0 H0 w0 ρ s.H w
  ds : dsOk E P ρ s.ds a.defers

/-- What a call of the evaluator says of the model's. -/
def CallOk (E : Env) (P : Program) (call : CallA) : Prop :=
  ∀ f args H r H', call f args H = some (r, H') → ∀ (ρ : Rho) (w : World) (vs : Array Value), Rel E ρ H w → vals E ρ args vs.toList →
    Calls P f vs w fun e w' => ∃ ρ' v, e = .returned v ∧ val E ρ' r v ∧ Rel E ρ' H' w' ∧ Step ρ H w ρ' H' w'

section
variable {E : Env} {P : Program} {F : Facts} {call : CallA}

theorem put_vals {ρ : Rho} {ts : List AV} {a : Act} (h : vals E ρ ts a.tmps.toList) {x : AV} {v : Value} (hx : val E ρ x v) (dst : Option Tmp) : vals E ρ (put ts dst x) (a.put dst v).tmps.toList := by
  cases dst with
  | none => exact h
  | some d =>
    simp only [put, Act.put, Array.toList_setIfInBounds]
    exact vals_set h d hx

theorem put_defers (a : Act) (dst : Option Tmp) (v : Value) : (a.put dst v).defers = a.defers := by
  cases dst <;> rfl

theorem undef_val {ρ : Rho} : val E ρ undefA undef := by
  simp only [undefA, undef, val]
  exact ⟨#[], rfl, vals_nil⟩

theorem wanted_ok {ρ : Rho} {ops : Array Oper} {ts : List AV} {a : Act} (h : vals E ρ ts a.tmps.toList) {o : Oper} {b : Bool} (hw : wantedA ops ts o = some b) : Region.wanted o (yielded ops a.tmps) = b := by
  unfold wantedA at hw
  unfold Region.wanted
  cases hg : o.guard with
  | none => simp [hg] at hw; simp [hw]
  | some jw =>
    obtain ⟨j, want⟩ := jw
    simp only [hg] at hw
    unfold yielded
    cases hd : (ops[j]?).bind (·.dst) with
    | none => simp [hd] at hw; subst hw; simp [hd]
    | some d =>
      simp only [hd] at hw
      cases ht : ts[d]? with
      | none =>
        simp only [ht, Option.some.injEq] at hw
        subst hw
        have hl := vals_length h
        have : a.tmps[d]? = none := by
          rw [List.getElem?_eq_none_iff] at ht
          simp at hl
          simp
          omega
        simp [hd, this]
      | some x =>
        obtain ⟨v, hv, hr⟩ := vals_get h ht
        have hv' : a.tmps[d]? = some v := by simpa using hv
        simp only [ht] at hw
        split at hw
        · simp at *
        · rename_i x' c hx
          simp only [Option.some.injEq] at hx hw
          subst hx
          have := val_bool hr
          subst this
          simp [hd, hv', hw]
        · rename_i x' l hx
          simp only [Option.some.injEq] at hx hw
          subst hx
          simp only [val] at hr
          obtain ⟨us, rfl, _⟩ := hr
          simp [hd, hv', hw]
        · simp at hw

/-- What follows an operation, whatever it is. -/
theorem upon_ok (hC : CallOk E P call) {ρ0 : Rho} {H0 : Heap} {w0 : World} {ρ : Rho} {s s' : St} {a : Act} {w : World} (h : SOk E P ρ0 H0 w0 s a w ρ) {o : Oper} {r : OpR} {x : AV}
    (hr : OpOk E P ρ s.H w (execOp a.eval o) r)
    (hs : (match r with
      | .val a => some (a, { s with ts := put s.ts o.dst a })
      | .new mk B => some (mk s.H.next, { s with ts := put s.ts o.dst (mk s.H.next), H := s.H.push B })
      | .wr a H => some (a, { s with ts := put s.ts o.dst a, H := H })
      | .skip H => some (undefA, { s with ts := put s.ts o.dst undefA, H := H })
      | .enter f args =>
        match call f args s.H with
        | none => none
        | some (r, H) => some (r, { s with ts := put s.ts o.dst r, H := H })
      | .defer f args => some (undefA, { s with ts := put s.ts o.dst undefA, ds := (f, args) :: s.ds })) = some (x, s'))
    {K : Act → World → Prop} {Q : Exit → Act → World → Prop} (hK : ∀ a' w' ρ', SOk E P ρ0 H0 w0 s' a' w' ρ' → K a' w') : o.wp P a w K Q := by
  unfold Oper.wp
  cases r with
  | val y =>
    simp only [Option.some.injEq, Prod.mk.injEq] at hs
    obtain ⟨_, rfl⟩ := hs
    obtain ⟨v, hrun, hv⟩ := hr
    rw [hrun, Oper.upon_value]
    exact hK _ _ ρ ⟨put_vals h.ts hv _, h.rel, h.step, by rw [put_defers]; exact h.ds⟩
  | new mk B =>
    simp only [Option.some.injEq, Prod.mk.injEq] at hs
    obtain ⟨_, rfl⟩ := hs
    obtain ⟨ob, m, v, hrun, hv⟩ := hr
    rw [hrun, Oper.upon_value]
    have hnone : ρ s.H.next = none := by
      cases e : ρ s.H.next with
      | none => rfl
      | some x => have := (h.rel.dom _ x.1 x.2 e).1; omega
    have hle := upd_le (x := (w.heap.size, m)) hnone
    obtain ⟨hv1, hv2⟩ := hv (upd ρ s.H.next (w.heap.size, m)) (w.alloc ob) s.H.next w.heap.size hle upd_self (by show (w.heap.push ob)[w.heap.size]? = _; simp)
    obtain ⟨q1, q2⟩ := h.rel.push ob B m hv2
    exact hK _ _ _ ⟨put_vals (vals_mono hle _ _ h.ts) hv1 _, q1, h.step.trans q2, by rw [put_defers]; exact dsOk_mono hle _ _ h.ds⟩
  | wr y H' =>
    simp only [Option.some.injEq, Prod.mk.injEq] at hs
    obtain ⟨_, rfl⟩ := hs
    obtain ⟨v, w', ρ', hrun, hv, h1, h2⟩ := hr
    rw [hrun, Oper.upon_value]
    exact hK _ _ ρ' ⟨put_vals (vals_mono h2.le _ _ h.ts) hv _, h1, h.step.trans h2, by rw [put_defers]; exact dsOk_mono h2.le _ _ h.ds⟩
  | skip H' =>
    simp only [Option.some.injEq, Prod.mk.injEq] at hs
    obtain ⟨_, rfl⟩ := hs
    obtain ⟨w', hrun, h1, h2⟩ := hr
    rw [hrun, Oper.upon_skip]
    exact hK _ _ ρ ⟨put_vals h.ts undef_val _, h1, h.step.trans h2, by rw [put_defers]; exact h.ds⟩
  | enter f args =>
    simp only at hs
    cases hc : call f args s.H with
    | none => simp [hc] at hs
    | some q =>
      obtain ⟨rr, H'⟩ := q
      simp only [hc, Option.some.injEq, Prod.mk.injEq] at hs
      obtain ⟨_, rfl⟩ := hs
      obtain ⟨vs, hrun, hv⟩ := hr
      rw [hrun, Oper.upon_enter]
      refine (hC f args s.H rr H' hc ρ w vs h.rel hv).mono ?_
      rintro e w' ⟨ρ', v, rfl, h1, h2, h3⟩
      exact hK _ _ ρ' ⟨put_vals (vals_mono h3.le _ _ h.ts) h1 _, h2, h.step.trans h3, by rw [put_defers]; exact dsOk_mono h3.le _ _ h.ds⟩
  | defer f args =>
    simp only [Option.some.injEq, Prod.mk.injEq] at hs
    obtain ⟨_, rfl⟩ := hs
    obtain ⟨d, hrun, hd⟩ := hr
    rw [hrun, Oper.upon_defer]
    refine hK _ _ ρ ⟨put_vals (a := { a with defers := d :: a.defers }) h.ts undef_val _, h.rel, h.step, ?_⟩
    rw [put_defers]
    exact ⟨d, a.defers, rfl, hd, h.ds⟩

theorem runOp_ok (hE : E.Ok) (hF : FactsOk E P F) (hC : CallOk E P call) {ρ0 : Rho} {H0 : Heap} {w0 : World} {ρ : Rho} {ops : Array Oper} {s s' : St} {a : Act} {w : World} (h : SOk E P ρ0 H0 w0 s a w ρ) {o : Oper} {x : AV}
    (hs : runOp P F call ops o s = some (x, s')) {K : Act → World → Prop} {Q : Exit → Act → World → Prop} (hK : ∀ a' w' ρ', SOk E P ρ0 H0 w0 s' a' w' ρ' → K a' w') :
    if Region.wanted o (yielded ops a.tmps) then o.wp P a w K Q ∨ (o.asks P a w ∧ LetsOut Q) else K (a.put o.dst undef) w := by
  unfold runOp at hs
  cases hw : wantedA ops s.ts o with
  | none => simp [hw] at hs
  | some b =>
    rw [hw] at hs
    rw [wanted_ok h.ts hw]
    cases b with
    | false =>
      simp only [Option.some.injEq, Prod.mk.injEq] at hs
      obtain ⟨_, rfl⟩ := hs
      simp only [Bool.false_eq_true, if_false]
      exact hK _ _ ρ ⟨put_vals h.ts undef_val _, h.rel, h.step, by rw [put_defers]; exact h.ds⟩
    | true =>
      simp only [if_true]
      left
      simp only at hs
      cases ho : opA P F (evA s.ts) o s.H with
      | none => simp [ho] at hs
      | some r =>
        refine upon_ok (x := x) hC h (op_ok hE hF h.rel h.ts ho) ?_ hK
        rw [ho] at hs
        cases r <;> exact hs

theorem runSeq_ok (hE : E.Ok) (hF : FactsOk E P F) (hC : CallOk E P call) {ρ0 : Rho} {H0 : Heap} {w0 : World} {ops : Array Oper} {Q : Exit → Act → World → Prop} : ∀ (l : List Oper) (s s' : St) (a : Act) (w : World) (ρ : Rho),
    SOk E P ρ0 H0 w0 s a w ρ → runSeq P F call ops l s = some s' → (∀ a' w' ρ', SOk E P ρ0 H0 w0 s' a' w' ρ' → Q .normal a' w') → wpList P ops Q l a w
  | [], s, s', a, w, ρ, h, hs, hQ => by
    simp only [runSeq, Option.some.injEq] at hs
    subst hs
    exact hQ a w ρ h
  | o :: l, s, s', a, w, ρ, h, hs, hQ => by
    simp only [runSeq] at hs
    cases hr : runOp P F call ops o s with
    | none => simp [hr] at hs
    | some q =>
      obtain ⟨x, s1⟩ := q
      rw [hr] at hs
      simp only [wpList]
      exact runOp_ok hE hF hC h hr fun a' w' ρ' h' => runSeq_ok hE hF hC l s1 s' a' w' ρ' h' hs hQ

end
end Go.Ev

/- Regions in any order: the evaluator. -/
set_option linter.unusedVariables false
set_option linter.unusedSimpArgs false
namespace Go.Ev

def entsBeq : List (AV × AV) → List (AV × AV) → Bool
  | [], [] => true
  | (a, b) :: r, (c, d) :: s => AV.beq a c && AV.beq b d && entsBeq r s
  | _, _ => false
theorem entsBeq_eq : ∀ (a b : List (AV × AV)), entsBeq a b = true → a = b
  | [], [], _ => rfl
  | (a, b) :: r, (c, d) :: s, h => by
    simp only [entsBeq, Bool.and_eq_true] at h
    rw [AV.beq_eq _ _ h.1.1, AV.beq_eq _ _ h.1.2, entsBeq_eq r s h.2]
  | [], _ :: _, h => by simp [entsBeq] at h
  | _ :: _, [], h => by simp [entsBeq] at h
def ABlk.beq : ABlk → ABlk → Bool
  | .dead, .dead => true
  | .cells vs t lo ro, .cells us u lo' ro' => AV.beqL vs us && t == u && lo == lo' && ro == ro'
  | .map a, .map b => entsBeq a b
  | _, _ => false
theorem ABlk.beq_eq {a b : ABlk} (h : ABlk.beq a b = true) : a = b := by
  cases a <;> cases b <;> simp [ABlk.beq] at h ⊢
  · exact ⟨AV.beqL_eq _ _ h.1.1.1, h.1.1.2, h.1.2, h.2⟩
  · exact entsBeq_eq _ _ h

/-- What is known of a region before it runs: which operations must be listed before one (bits); at how many listed loud ones it may first
and last run; the loud ones; the temporaries that an operation reads as they were before the region. -/
structure Stat where
  pre : List Nat
  lo : List Nat
  hi : List Nat
  louds : List Nat
  own : List (List Tmp)

def bitOf (m i : Nat) : Bool := m.testBit i

def stepPre (pre : List Nat) (o : Oper) : Nat :=
  o.after.toList.foldl (fun s e => if Region.binds .any e then s ||| (1 <<< e.on) ||| pre.getD e.on 0 else s) 0

def preOf (ops : Array Oper) : List Nat := ops.toList.foldl (fun acc o => acc ++ [stepPre acc o]) []

def isLoud (o : Oper) : Bool :=
  match o.op with
  | .store _ _ _ | .mapUpdate _ _ _ _ | .insert _ _ _ _ | .defer _ => true
  | .call c => match c.callee with
    | .builtin .len | .builtin .max | .builtin .min => false
    | _ => true
  | _ => false

def looks (ops : Array Oper) (o : Oper) : List Tmp :=
  (o.op.operands.toList.filterMap fun | .tmp t => some t | _ => none) ++
  (match o.guard with
   | some (g, _) => ((ops[g]?).bind (·.dst)).toList
   | none => [])

def writerGo (t : Tmp) : List Oper → Nat → Option Nat
  | [], _ => none
  | o :: r, i => if o.dst = some t then some i else writerGo t r (i + 1)
def writer (ops : Array Oper) (t : Tmp) : Option Nat := writerGo t ops.toList 0

def loOf (m : Nat) : List Nat → Nat → Nat → Nat
  | [], _, r => r
  | l :: ls, p, r => loOf m ls (p + 1) (if bitOf m l then p + 1 else r)
def hiOf (pre : List Nat) (i : Nat) : List Nat → Nat → Nat
  | [], p => p
  | l :: ls, p => if bitOf (pre.getD l 0) i then p else hiOf pre i ls (p + 1)

def statOf (ops : Array Oper) : Stat :=
  let pre := preOf ops
  let ns := List.range ops.size
  let louds := ns.filter fun i => (ops[i]?).any isLoud
  { pre := pre
    lo := ns.map fun i => loOf (pre.getD i 0) louds 0 0
    hi := ns.map fun i => hiOf pre i louds 0
    louds := louds
    own := ns.map fun i => match ops[i]? with
      | some o => (looks ops o).filter fun t => match writer ops t with
        | some j => !bitOf (pre.getD i 0) j
        | none => false
      | none => [] }

/-- What the proof of any order leans on. -/
def statOk (ops : Array Oper) (st : Stat) : Bool :=
  let ns := List.range ops.size
  (ns.all fun i => match ops[i]? with
    | none => false
    | some o =>
      (o.after.toList.all fun e => !Region.binds .any e || decide (e.on < i)) &&
      (stepPre st.pre o == st.pre.getD i 0) &&
      (match o.dst with | none => true | some d => writer ops d == some i) &&
      ((looks ops o).all fun t => match writer ops t with
        | none => true
        | some j => bitOf (st.pre.getD i 0) j || (st.own.getD i []).contains t) &&
      ((st.own.getD i []).all fun t => match writer ops t with
        | none => false
        | some j => j == i || bitOf (st.pre.getD j 0) i) &&
      (st.lo.getD i 0 == 0 || (match st.louds[st.lo.getD i 0 - 1]? with | some l => bitOf (st.pre.getD i 0) l | none => false)) &&
      (match st.louds[st.hi.getD i 0]? with | none => true | some l => bitOf (st.pre.getD l 0) i)) &&
  ((List.range st.louds.length).all fun p => match st.louds[p]? with
    | none => false
    | some l => decide (l < ops.size) && st.lo.getD l 0 == p)

structure DS where
  ts : List AV
  ds : List (FuncId × List AV)
  H : Heap
  ids : List (Nat × Nat)

def envOf (T0 ts : List AV) : List Tmp → List AV
  | [] => ts
  | t :: r => envOf T0 (match T0[t]? with | some x => ts.set t x | none => ts) r

section
variable (P : Program) (F : Facts) (call : CallA) (ops : Array Oper) (st : Stat) (T0 : List AV)

def quietPut (i : Nat) (s : DS) : Option DS :=
  match ops[i]? with
  | none => none
  | some o =>
    let env := envOf T0 s.ts (st.own.getD i [])
    match wantedA ops env o with
    | none => none
    | some false => some { s with ts := put s.ts o.dst undefA }
    | some true =>
      match opA P F (evA env) o s.H with
      | some (.val a) => some { s with ts := put s.ts o.dst a }
      | some (.new mk B) => some { s with ts := put s.ts o.dst (mk s.H.next), H := s.H.push B, ids := (i, s.H.next) :: s.ids }
      | _ => none

def quietPuts : List Nat → DS → Option DS
  | [], s => some s
  | i :: r, s =>
    match quietPut P F ops st T0 i s with
    | none => none
    | some s' => quietPuts r s'

def idOf (i : Nat) : List (Nat × Nat) → Option Nat
  | [] => none
  | (j, id) :: r => if j = i then some id else idOf i r

def hasAt (ts : List AV) (dst : Option Tmp) (a : AV) : Bool :=
  match dst with
  | none => true
  | some d => match ts[d]? with
    | some x => AV.beq x a
    | none => false

def quietOk (i : Nat) (s : DS) : Bool :=
  match ops[i]? with
  | none => false
  | some o =>
    let env := envOf T0 s.ts (st.own.getD i [])
    match wantedA ops env o with
    | none => false
    | some false => hasAt s.ts o.dst undefA
    | some true =>
      match opA P F (evA env) o s.H with
      | some (.val a) => hasAt s.ts o.dst a
      | some (.new mk B) =>
        match idOf i s.ids with
        | none => false
        | some id => hasAt s.ts o.dst (mk id) && (match s.H.get id with | some C => ABlk.beq C B | none => false) && s.ids.all fun p => p.1 == i || !(p.2 == id)
      | _ => false

def loudRun (i : Nat) (s : DS) : Option DS :=
  match ops[i]? with
  | none => none
  | some o =>
    let env := envOf T0 s.ts (st.own.getD i [])
    match wantedA ops env o with
    | none => none
    | some false => some { s with ts := put s.ts o.dst undefA }
    | some true =>
      match opA P F (evA env) o s.H with
      | some (.val a) => some { s with ts := put s.ts o.dst a }
      | some (.wr a H) => some { s with ts := put s.ts o.dst a, H := H }
      | some (.skip H) => some { s with ts := put s.ts o.dst undefA, H := H }
      | some (.enter f args) =>
        match call f args s.H with
        | none => none
        | some (r, H) => some { s with ts := put s.ts o.dst r, H := H }
      | some (.defer f args) => some { s with ts := put s.ts o.dst undefA, ds := (f, args) :: s.ds }
      | _ => none

def quietsAt (k : Nat) : List Nat := (List.range ops.size).filter fun i => st.lo.getD i 0 == k && !st.louds.contains i
def checksAt (k : Nat) (s : DS) : Bool :=
  (List.range ops.size).all fun i => st.louds.contains i || decide (k < st.lo.getD i 0) || decide (st.hi.getD i 0 < k) || quietOk P F ops st T0 i s

def headAt (k : Nat) (s : DS) : Option DS :=
  match quietPuts P F ops st T0 (quietsAt ops st k) s with
  | none => none
  | some s1 => if checksAt P F ops st T0 k s1 then some s1 else none

def stages : List Nat → Nat → DS → Option DS
  | [], k, s => headAt P F ops st T0 k s
  | i :: r, k, s =>
    match headAt P F ops st T0 k s with
    | none => none
    | some s1 =>
      match loudRun P F call ops st T0 i s1 with
      | none => none
      | some s2 => stages r (k + 1) s2

end

def runAny (P : Program) (F : Facts) (call : CallA) (ops : Array Oper) (st : Stat) (s : St) : Option St :=
  match stages P F call ops st s.ts st.louds 0 { ts := s.ts, ds := s.ds, H := s.H, ids := [] } with
  | none => none
  | some d => some { ts := d.ts, ds := d.ds, H := d.H }

/-- Every plan of a code is checked. -/
def codeOk (pl : Nat → Option Stat) : Code → Bool
  | .region id ops d => !d || (match pl id with | some st => statOk ops st | none => true)
  | .seq x y => codeOk pl x && codeOk pl y
  | .cond _ x y => codeOk pl x && codeOk pl y
  | .block _ x => codeOk pl x
  | .loop x => codeOk pl x
  | .scope x => codeOk pl x
  | _ => true

end Go.Ev

/- Operations look at their operands alone; what a checked plan of a region says. -/
set_option linter.unusedVariables false
set_option linter.unusedSimpArgs false
namespace Go.Ev

section
variable {P : Program} {F : Facts}

theorem parts_congr {e e' : Operand → AV} (ps : Array (Nat × Operand)) (h : ∀ x ∈ ps.map (·.2), e x = e' x) : parts e ps = parts e' ps := by
  unfold parts
  apply List.map_congr_left
  rintro ⟨i, x⟩ hp
  simp only [Prod.mk.injEq, true_and]
  exact h x (Array.mem_map.2 ⟨(i, x), by simpa using hp, rfl⟩)

theorem map_congr_arr {e e' : Operand → AV} (xs : Array Operand) (h : ∀ x ∈ xs, e x = e' x) : xs.toList.map e = xs.toList.map e' :=
  List.map_congr_left fun x hx => h x (by simpa using hx)

theorem opA_congr {e e' : Operand → AV} (o : Oper) (H : Heap) (h : ∀ x ∈ o.op.operands, e x = e' x) : opA P F e o H = opA P F e' o H := by
  obtain ⟨dst, op, type, pos, after, guard⟩ := o
  cases op <;> simp only [Op.operands] at h <;> simp only [opA]
  case build t ps => rw [parts_congr ps fun x hx => h x (by simpa using hx)]
  case buildSlice t n ps => rw [parts_congr ps fun x hx => h x (by simpa using hx)]
  case makeFunc fn first captured =>
    rw [map_congr_arr first fun x hx => h x (by simp [hx]), map_congr_arr captured fun x hx => h x (by simp [hx])]
  case call c =>
    have hargs : c.args.toList.map e = c.args.toList.map e' := map_congr_arr c.args fun x hx => h x (by simp [Call.operands, hx])
    rw [hargs]
    cases hc : c.callee with
    | value f => simp only [h f (by simp [Call.operands, hc])]
    | builtin b => rfl
    | invoke r n => rfl
  case defer c =>
    have hargs : c.args.toList.map e = c.args.toList.map e' := map_congr_arr c.args fun x hx => h x (by simp [Call.operands, hx])
    rw [hargs]
    cases hc : c.callee with
    | value f => simp only [h f (by simp [Call.operands, hc])]
    | builtin b => rfl
    | invoke r n => rfl
  case makeMap t r => cases r <;> simp_all
  case slice t x lo hi mx => cases lo <;> cases hi <;> cases mx <;> simp_all
  all_goals (first | rfl | (simp_all; done))

theorem evA_congr {ts us : List AV} {x : Operand} (h : ∀ t, x = .tmp t → ts[t]? = us[t]?) : evA ts x = evA us x := by
  cases x with
  | tmp t => simp only [evA, List.getD_eq_getElem?_getD, h t rfl]
  | _ => rfl

theorem mem_looks_op {ops : Array Oper} {o : Oper} {t : Tmp} (h : Operand.tmp t ∈ o.op.operands) : t ∈ looks ops o := by
  unfold looks
  refine List.mem_append_left _ (List.mem_filterMap.2 ⟨.tmp t, by simpa using h, rfl⟩)

theorem opA_looks {ops : Array Oper} {ts us : List AV} {o : Oper} {H : Heap} (h : ∀ t ∈ looks ops o, ts[t]? = us[t]?) : opA P F (evA ts) o H = opA P F (evA us) o H :=
  opA_congr o H fun x hx => evA_congr fun t e => h t (mem_looks_op (e ▸ hx))

theorem wantedA_looks {ops : Array Oper} {ts us : List AV} {o : Oper} (h : ∀ t ∈ looks ops o, ts[t]? = us[t]?) : wantedA ops ts o = wantedA ops us o := by
  unfold wantedA
  cases hg : o.guard with
  | none => rfl
  | some jw =>
    obtain ⟨j, want⟩ := jw
    simp only
    cases hd : (ops[j]?).bind (·.dst) with
    | none => rfl
    | some d =>
      simp only
      rw [h d (by unfold looks; simp [hg, hd])]

theorem env_get (T0 : List AV) : ∀ (own : List Tmp) (ts : List AV), ts.length = T0.length → ∀ t, (envOf T0 ts own)[t]? = if t ∈ own then T0[t]? else ts[t]?
  | [], ts, hl, t => by simp [envOf]
  | u :: r, ts, hl, t => by
    simp only [envOf]
    cases hu : T0[u]? with
    | none =>
      simp only
      rw [env_get T0 r ts hl t]
      by_cases e : t = u
      · subst e
        simp only [List.mem_cons, true_or, if_true]
        split
        · rfl
        · rw [hu]
          rw [List.getElem?_eq_none_iff] at hu ⊢
          omega
      · simp [e]
    | some x =>
      simp only
      rw [env_get T0 r _ (by simpa using hl) t]
      by_cases e : t = u
      · subst e
        simp only [List.mem_cons, true_or, if_true]
        split
        · rfl
        · rw [hu]
          have : t < T0.length := (List.getElem?_eq_some_iff.1 hu).1
          have hlt : t < ts.length := by rw [hl]; exact this
          rw [List.getElem?_set_self hlt]
      · have e' : ¬ u = t := fun h => e h.symm
        simp [e, List.getElem?_set_ne e']

theorem env_length (T0 : List AV) : ∀ (own : List Tmp) (ts : List AV), (envOf T0 ts own).length = ts.length
  | [], ts => rfl
  | u :: r, ts => by
    simp only [envOf]
    rw [env_length T0 r]
    split <;> simp

/-! ### The plan -/
theorem writerGo_some {t : Tmp} : ∀ (l : List Oper) (i j : Nat), writerGo t l i = some j → i ≤ j ∧ ∃ o, l[j - i]? = some o ∧ o.dst = some t
  | [], i, j, h => by simp [writerGo] at h
  | o :: r, i, j, h => by
    simp only [writerGo] at h
    split at h
    · rename_i hd
      simp only [Option.some.injEq] at h
      subst h
      exact ⟨Nat.le_refl _, o, by simp, hd⟩
    · obtain ⟨h1, o', h2, h3⟩ := writerGo_some r (i + 1) j h
      have e : j - i = (j - (i + 1)) + 1 := by omega
      exact ⟨by omega, o', by rw [e]; simpa using h2, h3⟩
theorem writerGo_none {t : Tmp} : ∀ (l : List Oper) (i : Nat), writerGo t l i = none → ∀ o ∈ l, o.dst ≠ some t
  | [], i, h => by simp
  | o :: r, i, h => by
    simp only [writerGo] at h
    split at h
    · simp at h
    · rename_i hd
      intro o' ho'
      rcases List.mem_cons.1 ho' with rfl | ho'
      · exact hd
      · exact writerGo_none r (i + 1) h o' ho'

theorem stepPre_bit {pre : List Nat} {j : Nat} : ∀ (l : List Edge) (s : Nat),
    bitOf (l.foldl (fun s e => if Region.binds .any e then s ||| (1 <<< e.on) ||| pre.getD e.on 0 else s) s) j = true →
    bitOf s j = true ∨ ∃ e ∈ l, Region.binds .any e = true ∧ (e.on = j ∨ bitOf (pre.getD e.on 0) j = true)
  | [], s, h => .inl h
  | e :: l, s, h => by
    simp only [List.foldl_cons] at h
    rcases stepPre_bit l _ h with h | ⟨e', he, hb, hh⟩
    · split at h
      · rename_i hb
        simp only [bitOf, Nat.testBit_or, Bool.or_eq_true, Nat.one_shiftLeft, Nat.testBit_two_pow, decide_eq_true_eq] at h
        rcases h with (h | h) | h
        · exact .inl h
        · exact .inr ⟨e, by simp, hb, .inl h⟩
        · exact .inr ⟨e, by simp, hb, .inr h⟩
      · exact .inl h
    · exact .inr ⟨e', by simp [he], hb, hh⟩

/-- What a checked plan says. -/
structure Plan (ops : Array Oper) (st : Stat) : Prop where
  back : ∀ i o, ops[i]? = some o → ∀ e ∈ o.after, Region.binds .any e = true → e.on < i
  pre : ∀ i o, ops[i]? = some o → ∀ j, bitOf (st.pre.getD i 0) j = true → ∃ e ∈ o.after, Region.binds .any e = true ∧ (e.on = j ∨ bitOf (st.pre.getD e.on 0) j = true)
  one : ∀ (i j : Nat) (o p : Oper) (t : Tmp), ops[i]? = some o → ops[j]? = some p → o.dst = some t → p.dst = some t → i = j
  read : ∀ i o, ops[i]? = some o → ∀ t ∈ looks ops o, ∀ j p, ops[j]? = some p → p.dst = some t → bitOf (st.pre.getD i 0) j = true ∨ t ∈ st.own.getD i []
  own : ∀ i o, ops[i]? = some o → ∀ t ∈ st.own.getD i [], ∀ j p, ops[j]? = some p → p.dst = some t → j = i ∨ bitOf (st.pre.getD j 0) i = true
  lo : ∀ i o, ops[i]? = some o → st.lo.getD i 0 = 0 ∨ ∃ l, st.louds[st.lo.getD i 0 - 1]? = some l ∧ bitOf (st.pre.getD i 0) l = true
  hi : ∀ i o, ops[i]? = some o → ∀ l, st.louds[st.hi.getD i 0]? = some l → bitOf (st.pre.getD l 0) i = true
  loud : ∀ p l, st.louds[p]? = some l → l < ops.size ∧ st.lo.getD l 0 = p

theorem plan_of {ops : Array Oper} {st : Stat} (h : statOk ops st = true) : Plan ops st := by
  unfold statOk at h
  simp only [Bool.and_eq_true, List.all_eq_true, List.mem_range] at h
  obtain ⟨h1, h2⟩ := h
  have lt : ∀ {i o}, ops[i]? = some o → i < ops.size := fun hi => (Array.getElem?_eq_some_iff.1 hi).1
  have g : ∀ i o, ops[i]? = some o → _ := fun i o hi => by
    have := h1 i (lt hi)
    rw [hi] at this
    simp only [Bool.and_eq_true, List.all_eq_true] at this
    exact this
  have wr : ∀ i o t, ops[i]? = some o → o.dst = some t → writer ops t = some i := fun i o t hi ht => by
    have := (g i o hi).1.1.1.1.2
    rw [ht] at this
    simpa using this
  refine ⟨?_, ?_, ?_, ?_, ?_, ?_, ?_, ?_⟩
  · intro i o hi e he hb
    have := (g i o hi).1.1.1.1.1.1 e (by simpa using he)
    simpa [hb] using this
  · intro i o hi j hj
    have := (g i o hi).1.1.1.1.1.2
    simp only [beq_iff_eq] at this
    rw [← this] at hj
    rcases stepPre_bit _ _ hj with h | ⟨e, he, hh⟩
    · simp [bitOf] at h
    · exact ⟨e, by simpa using he, hh⟩
  · intro i j o p t hi hj ho hp
    have e1 := wr i o t hi ho
    have e2 := wr j p t hj hp
    rw [e1] at e2
    simpa using e2
  · intro i o hi t ht j p hj hp
    have := (g i o hi).1.1.1.2 t ht
    rw [wr j p t hj hp] at this
    simp only [Bool.or_eq_true, List.contains_eq_mem, decide_eq_true_eq] at this
    exact this
  · intro i o hi t ht j p hj hp
    have := (g i o hi).1.1.2 t ht
    rw [wr j p t hj hp] at this
    simpa using this
  · intro i o hi
    have := (g i o hi).1.2
    simp only [Bool.or_eq_true, beq_iff_eq] at this
    rcases this with h | h
    · exact .inl h
    · right
      split at h
      · rename_i l hl; exact ⟨l, hl, h⟩
      · simp at h
  · intro i o hi l hl
    have := (g i o hi).2
    rw [hl] at this
    exact this
  · intro p l hl
    have hp : p < st.louds.length := (List.getElem?_eq_some_iff.1 hl).1
    have := h2 p hp
    rw [hl] at this
    simpa using this

end
end Go.Ev

/- Regions in any order: sound. -/
set_option linter.unusedVariables false
set_option linter.unusedSimpArgs false
namespace Go.Ev

section
variable {E : Env} {ρ : Rho} {P : Program} {F : Facts} {call : CallA} {H : Heap} {w : World}

theorem Rel.free (h : Rel E ρ H w) : ρ H.next = none := by
  cases e : ρ H.next with
  | none => rfl
  | some x => have := (h.dom _ x.1 x.2 e).1; omega

/-- A block that is not yet there. -/
theorem Rel.pend (h : Rel E ρ H w) (B : ABlk) : Rel E ρ (H.push B) w ∧ Step ρ H w ρ (H.push B) w := by
  have hne : ∀ {i x}, ρ i = some x → i ≠ H.next := fun hi e => by rw [e, h.free] at hi; simp at hi
  refine ⟨⟨⟨?_, ?_⟩, ?_, ?_⟩, ?_⟩
  · intro i b m C hi hg
    rw [Heap.get_push, if_neg (hne hi)] at hg
    exact h.blk i b m C hi hg
  · intro i j b m m' C D hi hj hg hk hC hD
    rw [Heap.get_push, if_neg (hne hi)] at hg
    rw [Heap.get_push, if_neg (hne hj)] at hk
    exact h.inj i j b m m' C D hi hj hg hk hC hD
  · intro i b m hi
    have := h.dom i b m hi
    exact ⟨Nat.lt_succ_of_lt this.1, this.2⟩
  · exact h.pin
  · refine ⟨rfl, rfl, rfl, Nat.le_refl _, Rho.le_refl ρ, fun _ _ hx => .inl hx, Nat.le_succ _, fun _ _ _ => rfl, ?_⟩
    rintro b hb ⟨i, m, C, hi, hg, h1, h2⟩
    rw [Heap.get_push, if_neg (hne hi)] at hg
    exact ⟨i, m, C, hi, hg, h1, h2⟩

/-- And now it is. -/
theorem Rel.born (h : Rel E ρ H w) {id m : Nat} {B : ABlk} (o : Obj) (hid : ρ id = none) (hg : H.get id = some B) (hB : blkRel E (upd ρ id (w.heap.size, m)) (w.alloc o) w.heap.size m B) :
    Rel E (upd ρ id (w.heap.size, m)) H (w.alloc o) ∧ ∀ (ρ0 : Rho) (H0 : Heap) (w0 : World), Step ρ0 H0 w0 ρ H w → H0.next ≤ id → Step ρ0 H0 w0 (upd ρ id (w.heap.size, m)) H (w.alloc o) := by
  have hold : ∀ b, b < w.heap.size → (w.alloc o).heap[b]? = w.heap[b]? := by
    intro b hb
    show (w.heap.push o)[b]? = _
    rw [Array.getElem?_push, if_neg (by omega)]
  have hsz : (w.alloc o).heap.size = w.heap.size + 1 := by show (w.heap.push o).size = _; simp
  have hle := upd_le (x := (w.heap.size, m)) hid
  refine ⟨⟨⟨?_, ?_⟩, ?_, ?_⟩, ?_⟩
  · intro i b m' C hi hC
    unfold upd at hi
    split at hi
    · rename_i e
      subst e
      simp only [Option.some.injEq, Prod.mk.injEq] at hi
      obtain ⟨rfl, rfl⟩ := hi
      rw [hg] at hC
      simp only [Option.some.injEq] at hC
      subst hC
      exact hB
    · exact blkRel_mono hle (hold b (h.dom i b m' hi).2) C (h.blk i b m' C hi hC)
  · intro i j b m1 m2 C D hi hj hC hD c1 c2
    unfold upd at hi hj
    by_cases e : i = id
    · by_cases f : j = id
      · rw [e, f]
      · rw [if_pos e] at hi
        rw [if_neg f] at hj
        simp only [Option.some.injEq, Prod.mk.injEq] at hi
        have := (h.dom j b m2 hj).2
        omega
    · by_cases f : j = id
      · rw [if_neg e] at hi
        rw [if_pos f] at hj
        simp only [Option.some.injEq, Prod.mk.injEq] at hj
        have := (h.dom i b m1 hi).2
        omega
      · rw [if_neg e] at hi
        rw [if_neg f] at hj
        exact h.inj i j b m1 m2 C D hi hj hC hD c1 c2
  · intro i b m' hi
    unfold upd at hi
    rw [hsz]
    split at hi
    · rename_i e
      simp only [Option.some.injEq, Prod.mk.injEq] at hi
      have := Heap.get_lt hg
      omega
    · have := h.dom i b m' hi
      omega
  · intro b o' hp
    obtain ⟨p1, p2⟩ := h.pin b o' hp
    have hlt : b < w.heap.size := (Array.getElem?_eq_some_iff.1 p1).1
    refine ⟨(hold b hlt).trans p1, fun i m' hi => ?_⟩
    unfold upd at hi
    split at hi
    · simp only [Option.some.injEq, Prod.mk.injEq] at hi
      omega
    · exact p2 i m' hi
  · intro ρ0 H0 w0 hs hn
    refine ⟨hs.os, hs.tape, hs.output, by rw [hsz]; have := hs.size; omega, Rho.le_trans hs.le hle, ?_, hs.next, ?_, ?_⟩
    · intro i x hx
      unfold upd at hx
      split at hx
      · rename_i e; right; omega
      · exact hs.fresh i x hx
    · intro b hb hw
      have := hs.size
      rw [hold b (by omega)]
      exact hs.keep b hb hw
    · rintro b hb ⟨i, m', C, hi, hC, c1, c2⟩
      have := hs.size
      unfold upd at hi
      split at hi
      · simp only [Option.some.injEq, Prod.mk.injEq] at hi
        omega
      · exact hs.new b hb ⟨i, m', C, hi, hC, c1, c2⟩

variable {ops : Array Oper} {st : Stat} {T0 : List AV}

theorem put_get (ts : List AV) (dst : Option Tmp) (x : AV) (t : Tmp) (h : dst ≠ some t) : (put ts dst x)[t]? = ts[t]? := by
  cases dst with
  | none => rfl
  | some d =>
    have : d ≠ t := fun e => h (by rw [e])
    simp [put, List.getElem?_set_ne this]
theorem put_len (ts : List AV) (dst : Option Tmp) (x : AV) : (put ts dst x).length = ts.length := by
  cases dst <;> simp [put]
theorem put_self (ts us : List AV) (x : AV) (t : Tmp) (h : ts.length = us.length) : (put ts (some t) x)[t]? = (put us (some t) x)[t]? := by
  simp only [put, List.getElem?_set]
  simp [h]

structure Puts (ops : Array Oper) (js : List Nat) (s s' : DS) : Prop where
  len : s'.ts.length = s.ts.length
  keep : ∀ t, (∀ j ∈ js, ∀ p, ops[j]? = some p → p.dst ≠ some t) → s'.ts[t]? = s.ts[t]?
  ds : s'.ds = s.ds
  next : s.H.next ≤ s'.H.next
  ids : ∀ q ∈ s'.ids, q ∈ s.ids ∨ (s.H.next ≤ q.2 ∧ q.2 < s'.H.next)
  rel : ∀ (E : Env) (ρ : Rho) (w : World), Rel E ρ s.H w → Rel E ρ s'.H w ∧ Step ρ s.H w ρ s'.H w

theorem quietPut_ok {i : Nat} {s s' : DS} (h : quietPut P F ops st T0 i s = some s') : Puts ops [i] s s' := by
  unfold quietPut at h
  cases ho : ops[i]? with
  | none => simp [ho] at h
  | some o =>
    rw [ho] at h
    simp only at h
    have hk : ∀ x, ∀ t, (∀ j ∈ [i], ∀ p, ops[j]? = some p → p.dst ≠ some t) → (put s.ts o.dst x)[t]? = s.ts[t]? := fun x t ht => put_get _ _ _ _ (ht i (by simp) o ho)
    have refl : ∀ (E : Env) (ρ : Rho) (w : World), Rel E ρ s.H w → Rel E ρ s.H w ∧ Step ρ s.H w ρ s.H w := fun E ρ w hr => ⟨hr, Step.refl ρ s.H w⟩
    split at h
    · simp at h
    · simp only [Option.some.injEq] at h
      subst h
      exact ⟨put_len _ _ _, hk _, rfl, Nat.le_refl _, fun q hq => .inl hq, refl⟩
    · split at h
      · simp only [Option.some.injEq] at h
        subst h
        exact ⟨put_len _ _ _, hk _, rfl, Nat.le_refl _, fun q hq => .inl hq, refl⟩
      · simp only [Option.some.injEq] at h
        subst h
        refine ⟨put_len _ _ _, hk _, rfl, Nat.le_succ _, fun q hq => ?_, fun E ρ w hr => hr.pend _⟩
        rcases List.mem_cons.1 hq with rfl | hq
        · exact .inr ⟨Nat.le_refl _, Nat.lt_succ_self _⟩
        · exact .inl hq
      · simp at h

theorem quietPuts_ok : ∀ (js : List Nat) (s s' : DS), quietPuts P F ops st T0 js s = some s' → Puts ops js s s'
  | [], s, s', h => by
    simp only [quietPuts, Option.some.injEq] at h
    subst h
    exact ⟨rfl, fun _ _ => rfl, rfl, Nat.le_refl _, fun q hq => .inl hq, fun E ρ w hr => ⟨hr, Step.refl ρ s.H w⟩⟩
  | i :: js, s, s', h => by
    simp only [quietPuts] at h
    cases hq : quietPut P F ops st T0 i s with
    | none => simp [hq] at h
    | some s1 =>
      rw [hq] at h
      have h1 := quietPut_ok hq
      have h2 := quietPuts_ok js s1 s' h
      refine ⟨h2.len.trans h1.len, fun t ht => ?_, h2.ds.trans h1.ds, Nat.le_trans h1.next h2.next, fun q hq => ?_, fun E ρ w hr => ?_⟩
      · rw [h2.keep t fun j hj => ht j (by simp [hj]), h1.keep t fun j hj => ht j (by simp at hj; simp [hj])]
      · have n1 := h1.next
        have n2 := h2.next
        rcases h2.ids q hq with hq | ⟨hq1, hq2⟩
        · rcases h1.ids q hq with hq | ⟨hq1, hq2⟩
          · exact .inl hq
          · exact .inr ⟨hq1, by omega⟩
        · exact .inr ⟨by omega, hq2⟩
      · obtain ⟨r1, s1'⟩ := h1.rel E ρ w hr
        obtain ⟨r2, s2'⟩ := h2.rel E ρ w r1
        exact ⟨r2, s1'.trans s2'⟩

structure RCan (P : Program) (F : Facts) (ops : Array Oper) (st : Stat) (T0 : List AV) (k : Nat) (s : DS) : Prop where
  len : s.ts.length = T0.length
  non : ∀ (t : Tmp), (∀ (j : Nat) (p : Oper), ops[j]? = some p → p.dst ≠ some t) → s.ts[t]? = T0[t]?
  ok : ∀ i o, ops[i]? = some o → i ∉ st.louds → st.lo.getD i 0 ≤ k → k ≤ st.hi.getD i 0 → quietOk P F ops st T0 i s = true

structure RInv (E : Env) (P : Program) (ρ0 : Rho) (H0 : Heap) (w0 : World) (ops : Array Oper) (st : Stat) (T0 : List AV) (k : Nat) (s : DS) (listed : Array Bool) (a : Act) (w : World) (ρ : Rho) (tl : List AV) : Prop where
  ts : vals E ρ tl a.tmps.toList
  len : tl.length = T0.length
  old : ∀ (t : Tmp), (∀ (j : Nat) (p : Oper), listed[j]? = some true → ops[j]? = some p → p.dst ≠ some t) → tl[t]? = T0[t]?
  new : ∀ (j : Nat) (p : Oper) (t : Tmp), listed[j]? = some true → ops[j]? = some p → p.dst = some t → tl[t]? = s.ts[t]?
  rel : Rel E ρ s.H w
  step : Step ρ0 H0 w0 ρ s.H w
  ds : dsOk E P ρ s.ds a.defers
  wait : ∀ q ∈ s.ids, listed[q.1]? ≠ some true → ρ q.2 = none
  near : ∀ q ∈ s.ids, q.2 < s.H.next
  far : ∀ q ∈ s.ids, H0.next ≤ q.2
  size : listed.size = ops.size
  closed : ∀ j o, ops[j]? = some o → listed[j]? = some true → ∀ i, bitOf (st.pre.getD j 0) i = true → listed[i]? = some true
  cut : ∀ p l, st.louds[p]? = some l → (listed[l]? = some true ↔ p < k)

variable {ρ0 : Rho} {H0 : Heap} {w0 : World} {k : Nat} {s : DS} {listed : Array Bool} {a : Act} {tl : List AV}

theorem env_tl (hp : Plan ops st) (hc : RCan P F ops st T0 k s) (hi : RInv E P ρ0 H0 w0 ops st T0 k s listed a w ρ tl) {i : Nat} {o : Oper} (ho : ops[i]? = some o)
    (hpre : ∀ j, bitOf (st.pre.getD i 0) j = true → listed[j]? = some true) (hun : listed[i]? ≠ some true) : ∀ t ∈ looks ops o, (envOf T0 s.ts (st.own.getD i []))[t]? = tl[t]? := by
  intro t ht
  rw [env_get T0 _ _ hc.len]
  split
  · rename_i hown
    refine (hi.old t fun j p hj hp' hd => ?_).symm
    rcases hp.own i o ho t hown j p hp' hd with rfl | hb
    · exact hun hj
    · exact hun (hi.closed j p hp' hj i hb)
  · rename_i hown
    by_cases hw : ∃ (j : Nat) (p : Oper), ops[j]? = some p ∧ p.dst = some t
    · obtain ⟨j, p, hj, hd⟩ := hw
      rcases hp.read i o ho t ht j p hj hd with hb | hb
      · exact (hi.new j p t (hpre j hb) hj hd).symm
      · exact absurd hb hown
    · have hno : ∀ (j : Nat) (p : Oper), ops[j]? = some p → p.dst ≠ some t := fun j p hj hd => hw ⟨j, p, hj, hd⟩
      rw [hc.non t hno, hi.old t fun j p _ hj => hno j p hj]

theorem listed_set {i j : Nat} (hi : i < listed.size) : (listed.setIfInBounds i true)[j]? = some true ↔ j = i ∨ listed[j]? = some true := by
  rw [Array.getElem?_setIfInBounds]
  by_cases e : i = j
  · subst e
    simp [hi]
  · have e' : ¬ j = i := fun h => e h.symm
    simp [e, e']

theorem lo_le (hp : Plan ops st) (hi : RInv E P ρ0 H0 w0 ops st T0 k s listed a w ρ tl) {i : Nat} {o : Oper} (ho : ops[i]? = some o)
    (hpre : ∀ j, bitOf (st.pre.getD i 0) j = true → listed[j]? = some true) : st.lo.getD i 0 ≤ k := by
  rcases hp.lo i o ho with h | ⟨l, hl, hb⟩
  · omega
  · have := (hi.cut _ l hl).1 (hpre l hb)
    omega

/-- An operation that is not loud has run. -/
theorem inv_put (hp : Plan ops st) (hlen : s.ts.length = T0.length) (hi : RInv E P ρ0 H0 w0 ops st T0 k s listed a w ρ tl) {i : Nat} {o : Oper} (ho : ops[i]? = some o) (hq : i ∉ st.louds)
    (hpre : ∀ j, bitOf (st.pre.getD i 0) j = true → listed[j]? = some true) {x : AV} {v : Value} (hx : hasAt s.ts o.dst x = true) {ρ' : Rho} {w' : World}
    (hv : val E ρ' x v) (hle : ρ.le ρ') (hr : Rel E ρ' s.H w') (hs : Step ρ0 H0 w0 ρ' s.H w') (hwait : ∀ q ∈ s.ids, q.1 ≠ i → listed[q.1]? ≠ some true → ρ' q.2 = none) :
    RInv E P ρ0 H0 w0 ops st T0 k s (listed.setIfInBounds i true) (a.put o.dst v) w' ρ' (put tl o.dst x) := by
  have hlt : i < listed.size := by rw [hi.size]; exact (Array.getElem?_eq_some_iff.1 ho).1
  have hl := fun j => listed_set (listed := listed) (j := j) hlt
  refine ⟨put_vals (vals_mono hle _ _ hi.ts) hv _, by rw [put_len, hi.len], ?_, ?_, hr, hs, by rw [put_defers]; exact dsOk_mono hle _ _ hi.ds, ?_, hi.near, hi.far, by simpa using hi.size, ?_, ?_⟩
  · intro t ht
    rw [put_get _ _ _ _ (ht i o ((hl i).2 (.inl rfl)) ho)]
    exact hi.old t fun j p hj => ht j p ((hl j).2 (.inr hj))
  · intro j p t hj hjp hd
    by_cases e : j = i
    · subst e
      rw [ho] at hjp
      simp only [Option.some.injEq] at hjp
      subst hjp
      rw [hd] at hx ⊢
      simp only [hasAt] at hx
      cases hst : s.ts[t]? with
      | none => simp [hst] at hx
      | some y =>
        simp only [hst] at hx
        rw [AV.beq_eq _ _ hx]
        have hlen' : t < s.ts.length := (List.getElem?_eq_some_iff.1 hst).1
        simp only [put]
        have ht : t < tl.length := by rw [hi.len, ← hlen]; exact hlen'
        rw [List.getElem?_set_self ht]
    · have hj' := ((hl j).1 hj).resolve_left e
      have hne : o.dst ≠ some t := fun h => e (hp.one j i p o t hjp ho hd h)
      rw [put_get _ _ _ _ hne]
      exact hi.new j p t hj' hjp hd
  · intro q hq1 hq2
    exact hwait q hq1 (fun e => hq2 ((hl _).2 (.inl e))) (fun h => hq2 ((hl _).2 (.inr h)))
  · intro j o' hj hjl i' hb
    rcases (hl j).1 hjl with rfl | hjl
    · exact (hl i').2 (.inr (hpre i' hb))
    · exact (hl i').2 (.inr (hi.closed j o' hj hjl i' hb))
  · intro p l hpl
    have hne : l ≠ i := fun e => hq (e ▸ List.mem_of_getElem? hpl)
    rw [hl l]
    simp only [hne, false_or]
    exact hi.cut p l hpl

theorem ready_iff {i : Nat} : i ∈ Region.ready .any ops listed ↔ i < ops.size ∧ listed.getD i true = false ∧ ∃ o, ops[i]? = some o ∧ ∀ e ∈ o.after, Region.binds .any e = true → listed.getD e.on false = true := by
  unfold Region.ready
  simp only [List.mem_filter, List.mem_range, Bool.and_eq_true, Bool.not_eq_true']
  constructor
  · rintro ⟨h1, h2, h3⟩
    refine ⟨h1, h2, ?_⟩
    cases ho : ops[i]? with
    | none => simp [ho] at h3
    | some o =>
      rw [ho] at h3
      simp only [Option.map_some, Option.getD_some, Array.all_eq_true', Bool.or_eq_true, Bool.not_eq_true'] at h3
      refine ⟨o, rfl, fun e he hb => ?_⟩
      rcases h3 e he with h | h
      · rw [hb] at h; simp at h
      · exact h
  · rintro ⟨h1, h2, o, ho, h3⟩
    refine ⟨h1, h2, ?_⟩
    rw [ho]
    simp only [Option.map_some, Option.getD_some, Array.all_eq_true', Bool.or_eq_true, Bool.not_eq_true']
    intro e he
    cases hb : Region.binds .any e with
    | false => exact .inl rfl
    | true => exact .inr (h3 e he hb)

theorem getD_listed {i : Nat} : listed.getD i false = true ↔ listed[i]? = some true := by
  rw [Array.getD_eq_getD_getElem?]
  cases listed[i]? <;> simp

theorem ready_spec (hp : Plan ops st) (hi : RInv E P ρ0 H0 w0 ops st T0 k s listed a w ρ tl) {i : Nat} (hr : i ∈ Region.ready .any ops listed) :
    ∃ o, ops[i]? = some o ∧ listed[i]? ≠ some true ∧ ∀ j, bitOf (st.pre.getD i 0) j = true → listed[j]? = some true := by
  obtain ⟨h1, h2, o, ho, h3⟩ := ready_iff.1 hr
  refine ⟨o, ho, ?_, fun j hb => ?_⟩
  · intro h
    rw [Array.getD_eq_getD_getElem?, h] at h2
    simp at h2
  · obtain ⟨e, he, hbe, hj⟩ := hp.pre i o ho j hb
    have hl := getD_listed.1 (h3 e he hbe)
    rcases hj with rfl | hj
    · exact hl
    · have hlt := hp.back i o ho e he hbe
      have hlt' : i < ops.size := (Array.getElem?_eq_some_iff.1 ho).1
      have hon : ops[e.on]? = some ops[e.on] := Array.getElem?_eq_getElem (by omega)
      exact hi.closed e.on _ hon hl j hj

theorem ready_nil (hp : Plan ops st) (hi : RInv E P ρ0 H0 w0 ops st T0 k s listed a w ρ tl) (hr : Region.ready .any ops listed = []) : ∀ i, i < ops.size → listed[i]? = some true := by
  intro i
  induction i using Nat.strongRecOn with
  | _ i ih =>
    intro hlt
    have ho : ops[i]? = some ops[i] := Array.getElem?_eq_getElem hlt
    cases hl : listed[i]? with
    | none =>
      rw [Array.getElem?_eq_none_iff, hi.size] at hl
      omega
    | some b =>
      cases b with
      | true => rfl
      | false =>
        have : i ∈ Region.ready .any ops listed := ready_iff.2 ⟨hlt, by rw [Array.getD_eq_getD_getElem?, hl]; rfl, _, ho, fun e he hb => by
          have := hp.back i _ ho e he hb
          exact getD_listed.2 (ih e.on this (by omega))⟩
        rw [hr] at this
        simp at this

theorem quiet_step (hE : E.Ok) (hF : FactsOk E P F) (hp : Plan ops st) (hc : RCan P F ops st T0 k s) (hi : RInv E P ρ0 H0 w0 ops st T0 k s listed a w ρ tl) {i : Nat} (hr : i ∈ Region.ready .any ops listed) (hq : i ∉ st.louds)
    (hk : k ≤ st.louds.length) {Q : Exit → Act → World → Prop} {K : Act → World → Prop}
    (hK : ∀ a' w' ρ' tl', RInv E P ρ0 H0 w0 ops st T0 k s (listed.setIfInBounds i true) a' w' ρ' tl' → K a' w') : wpOp P ops Q i K a w := by
  obtain ⟨o, ho, hun, hpre⟩ := ready_spec hp hi hr
  have hlo := lo_le hp hi ho hpre
  have hhi : k ≤ st.hi.getD i 0 := by
    cases hl : st.louds[st.hi.getD i 0]? with
    | none =>
      rw [List.getElem?_eq_none_iff] at hl
      omega
    | some l =>
      have hb := hp.hi i o ho l hl
      have hll := hp.loud _ l hl
      have hnl : ¬ listed[l]? = some true := fun h => hun (hi.closed l _ (Array.getElem?_eq_getElem hll.1) h i hb)
      have := hi.cut _ l hl
      have : ¬ (st.hi.getD i 0 < k) := fun h => hnl (this.2 h)
      omega
  have hok := hc.ok i o ho hq hlo hhi
  have henv := env_tl hp hc hi ho hpre hun
  have hw' := wantedA_looks (ops := ops) (o := o) henv
  have hop := opA_looks (P := P) (F := F) (ops := ops) (o := o) (H := s.H) henv
  unfold quietOk at hok
  rw [ho] at hok
  simp only at hok
  rw [hw', hop] at hok
  unfold wpOp
  rw [ho]
  simp only
  cases hw : wantedA ops tl o with
  | none => simp [hw] at hok
  | some b =>
    rw [hw] at hok
    rw [wanted_ok hi.ts hw]
    cases b with
    | false =>
      simp only [Bool.false_eq_true, if_false]
      exact hK _ _ ρ _ (inv_put hp hc.len hi ho hq hpre hok undef_val (Rho.le_refl ρ) hi.rel hi.step fun q hq1 _ hq2 => hi.wait q hq1 hq2)
    | true =>
      simp only [if_true]
      left
      simp only at hok
      cases hr' : opA P F (evA tl) o s.H with
      | none => simp [hr'] at hok
      | some r =>
        rw [hr'] at hok
        have hrun := op_ok hE hF hi.rel hi.ts hr'
        unfold Oper.wp
        cases r with
        | val x =>
          obtain ⟨v, h1, h2⟩ := hrun
          rw [h1, Oper.upon_value]
          exact hK _ _ ρ _ (inv_put hp hc.len hi ho hq hpre hok h2 (Rho.le_refl ρ) hi.rel hi.step fun q hq1 _ hq2 => hi.wait q hq1 hq2)
        | new mk B =>
          obtain ⟨ob, m, v, h1, h2⟩ := hrun
          rw [h1, Oper.upon_value]
          simp only at hok
          cases hid : idOf i s.ids with
          | none => simp [hid] at hok
          | some id =>
            rw [hid] at hok
            simp only [Bool.and_eq_true] at hok
            obtain ⟨⟨k1, k2⟩, k3⟩ := hok
            have hmem : (i, id) ∈ s.ids := by
              have : ∀ l : List (Nat × Nat), idOf i l = some id → (i, id) ∈ l := by
                intro l
                induction l with
                | nil => simp [idOf]
                | cons q l ih =>
                  obtain ⟨j, d⟩ := q
                  simp only [idOf]
                  split
                  · rename_i e
                    intro h
                    simp only [Option.some.injEq] at h
                    simp [e, h]
                  · intro h
                    exact List.mem_cons_of_mem _ (ih h)
              exact this _ hid
            have hnone := hi.wait _ hmem hun
            have hget : s.H.get id = some B := by
              cases hg : s.H.get id with
              | none => simp [hg] at k2
              | some C => simp only [hg] at k2; rw [ABlk.beq_eq k2]
            have hle := upd_le (x := (w.heap.size, m)) hnone
            obtain ⟨v1, v2⟩ := h2 (upd ρ id (w.heap.size, m)) (w.alloc ob) id w.heap.size hle upd_self (by show (w.heap.push ob)[w.heap.size]? = _; simp)
            obtain ⟨b1, b2⟩ := hi.rel.born ob hnone hget v2
            refine hK _ _ _ _ (inv_put hp hc.len hi ho hq hpre k1 v1 hle b1 (b2 ρ0 H0 w0 hi.step (hi.far _ hmem)) fun q hq1 hq2 hq3 => ?_)
            rw [List.all_eq_true] at k3
            have := k3 q hq1
            simp only [Bool.or_eq_true, beq_iff_eq, Bool.not_eq_true', beq_eq_false_iff_ne, ne_eq] at this
            have hne := this.resolve_left hq2
            unfold upd
            rw [if_neg hne]
            exact hi.wait q hq1 hq3
        | wr x H' => simp at hok
        | skip H' => simp at hok
        | enter f args => simp at hok
        | defer f args => simp at hok

end
end Go.Ev

/- Regions in any order: the loud steps, and the whole. -/
set_option linter.unusedVariables false
set_option linter.unusedSimpArgs false
namespace Go.Ev

section
variable {E : Env} {ρ : Rho} {P : Program} {F : Facts} {call : CallA} {H : Heap} {w : World}
variable {ops : Array Oper} {st : Stat} {T0 : List AV} {ρ0 : Rho} {H0 : Heap} {w0 : World} {k : Nat} {s : DS} {listed : Array Bool} {a : Act} {tl : List AV}

theorem head_ok {k : Nat} {s s1 : DS} (h : headAt P F ops st T0 k s = some s1) : Puts ops (quietsAt ops st k) s s1 ∧ checksAt P F ops st T0 k s1 = true := by
  unfold headAt at h
  cases hq : quietPuts P F ops st T0 (quietsAt ops st k) s with
  | none => simp [hq] at h
  | some s2 =>
    simp only [hq] at h
    split at h
    · rename_i hc
      simp only [Option.some.injEq] at h
      subst h
      exact ⟨quietPuts_ok _ _ _ hq, hc⟩
    · simp at h

theorem can_head {k : Nat} {s s1 : DS} (h : headAt P F ops st T0 k s = some s1) (hlen : s.ts.length = T0.length) (hnon : ∀ (t : Tmp), (∀ (j : Nat) (p : Oper), ops[j]? = some p → p.dst ≠ some t) → s.ts[t]? = T0[t]?) :
    RCan P F ops st T0 k s1 := by
  obtain ⟨h1, h2⟩ := head_ok h
  refine ⟨h1.len.trans hlen, fun t ht => ?_, fun i o ho hq hlo hhi => ?_⟩
  · rw [h1.keep t fun j _ p hp => ht j p hp]
    exact hnon t ht
  · unfold checksAt at h2
    rw [List.all_eq_true] at h2
    have := h2 i (List.mem_range.2 (Array.getElem?_eq_some_iff.1 ho).1)
    simp only [Bool.or_eq_true, List.contains_eq_mem, decide_eq_true_eq] at this
    rcases this with ((h | h) | h) | h
    · exact absurd h hq
    · omega
    · omega
    · exact h

theorem mem_quiets {k j : Nat} (h : j ∈ quietsAt ops st k) : st.lo.getD j 0 = k ∧ j ∉ st.louds := by
  unfold quietsAt at h
  simp only [List.mem_filter, Bool.and_eq_true, beq_iff_eq, Bool.not_eq_true'] at h
  refine ⟨h.2.1, fun hm => ?_⟩
  have := h.2.2
  simp [List.contains_eq_mem, hm] at this

theorem loud_inv (hp : Plan ops st) (hc : RCan P F ops st T0 k s) (hi : RInv E P ρ0 H0 w0 ops st T0 k s listed a w ρ tl) {i : Nat} {o : Oper} (ho : ops[i]? = some o) (hq : st.louds[k]? = some i)
    (hpre : ∀ j, bitOf (st.pre.getD i 0) j = true → listed[j]? = some true) {x : AV} {v : Value} {ρ' : Rho} {w' : World} {H' : Heap} {ds' : List (FuncId × List AV)} {a1 : Act} (ha : a1.tmps = a.tmps)
    (hv : val E ρ' x v) (hr : Rel E ρ' H' w') (hs : Step ρ s.H w ρ' H' w') (hd : dsOk E P ρ' ds' a1.defers) {s3 : DS}
    (hh : headAt P F ops st T0 (k + 1) { ts := put s.ts o.dst x, ds := ds', H := H', ids := s.ids } = some s3) :
    RCan P F ops st T0 (k + 1) s3 ∧ RInv E P ρ0 H0 w0 ops st T0 (k + 1) s3 (listed.setIfInBounds i true) (a1.put o.dst v) w' ρ' (put tl o.dst x) := by
  have hlt : i < listed.size := by rw [hi.size]; exact (Array.getElem?_eq_some_iff.1 ho).1
  have hl := fun j => listed_set (listed := listed) (j := j) hlt
  obtain ⟨h1, h2⟩ := head_ok hh
  have hout : ∀ {j p}, ops[j]? = some p → (j = i ∨ listed[j]? = some true) → ∀ t, p.dst = some t → ∀ j' ∈ quietsAt ops st (k + 1), ∀ p', ops[j']? = some p' → p'.dst ≠ some t := by
    intro j p hj hl t ht j' hj' p' hp' hd'
    obtain ⟨m1, m2⟩ := mem_quiets hj'
    have e := hp.one j j' p p' t hj hp' ht hd'
    subst e
    rcases hl with rfl | hl
    · exact m2 (List.mem_of_getElem? hq)
    · have := lo_le hp hi hj (hi.closed j p hj hl)
      omega
  refine ⟨can_head hh (by simp only [put_len]; exact hc.len) fun t ht => ?_, ?_⟩
  · simp only
    rw [put_get _ _ _ _ (ht i o ho)]
    exact hc.non t ht
  · obtain ⟨q1, q2⟩ := h1.rel E ρ' w' hr
    have n1 := hi.step.next
    have n2 := hs.next
    have n3 := h1.next
    simp only at n3
    refine ⟨put_vals (a := a1) (by rw [ha]; exact vals_mono hs.le _ _ hi.ts) hv _, by rw [put_len, hi.len], ?_, ?_, q1, (hi.step.trans hs).trans q2, ?_, ?_, ?_, ?_, by simpa using hi.size, ?_, ?_⟩
    · intro t ht
      rw [put_get _ _ _ _ (ht i o ((hl i).2 (.inl rfl)) ho)]
      exact hi.old t fun j p hj => ht j p ((hl j).2 (.inr hj))
    · intro j p t hj hjp hd
      rw [h1.keep t (hout hjp ((hl j).1 hj) t hd)]
      simp only
      by_cases e : j = i
      · subst e
        rw [ho] at hjp
        simp only [Option.some.injEq] at hjp
        subst hjp
        rw [hd]
        exact put_self _ _ _ _ (hi.len.trans hc.len.symm)
      · have hj' := ((hl j).1 hj).resolve_left e
        have hne : o.dst ≠ some t := fun h => e (hp.one j i p o t hjp ho hd h)
        rw [put_get _ _ _ _ hne, put_get _ _ _ _ hne]
        exact hi.new j p t hj' hjp hd
    · rw [put_defers, h1.ds]
      exact hd
    · intro q hq1 hq2
      rcases h1.ids q hq1 with hq1 | ⟨hq1, _⟩
      · have hw := hi.wait q hq1 (fun h => hq2 ((hl _).2 (.inr h)))
        have hn := hi.near q hq1
        cases e : ρ' q.2 with
        | none => rfl
        | some y =>
          rcases hs.fresh _ _ e with h | h
          · rw [hw] at h; simp at h
          · omega
      · simp only at hq1
        cases e : ρ' q.2 with
        | none => rfl
        | some y => have := (hr.dom _ y.1 y.2 e).1; omega
    · intro q hq1
      rcases h1.ids q hq1 with hq1 | ⟨_, hq1⟩
      · have := hi.near q hq1
        omega
      · exact hq1
    · intro q hq1
      rcases h1.ids q hq1 with hq1 | ⟨hq1, _⟩
      · exact hi.far q hq1
      · simp only at hq1
        omega
    · intro j o' hj hjl i' hb
      rcases (hl j).1 hjl with rfl | hjl
      · exact (hl i').2 (.inr (hpre i' hb))
      · exact (hl i').2 (.inr (hi.closed j o' hj hjl i' hb))
    · intro p l hpl
      rw [hl l]
      have hll := (hp.loud p l hpl).2
      have hli := (hp.loud k i hq).2
      constructor
      · rintro (rfl | h)
        · omega
        · have := (hi.cut p l hpl).1 h
          omega
      · intro h
        by_cases e : p = k
        · subst e
          rw [hq] at hpl
          simp only [Option.some.injEq] at hpl
          exact .inl hpl.symm
        · exact .inr ((hi.cut p l hpl).2 (by omega))

theorem loud_step (hE : E.Ok) (hF : FactsOk E P F) (hC : CallOk E P call) (hp : Plan ops st) (hc : RCan P F ops st T0 k s) (hi : RInv E P ρ0 H0 w0 ops st T0 k s listed a w ρ tl) {i : Nat}
    (hr : i ∈ Region.ready .any ops listed) (hq : st.louds[k]? = some i) {s2 s3 : DS} (hl : loudRun P F call ops st T0 i s = some s2) (hh : headAt P F ops st T0 (k + 1) s2 = some s3)
    {Q : Exit → Act → World → Prop} {K : Act → World → Prop}
    (hK : ∀ a' w' ρ' tl', RCan P F ops st T0 (k + 1) s3 → RInv E P ρ0 H0 w0 ops st T0 (k + 1) s3 (listed.setIfInBounds i true) a' w' ρ' tl' → K a' w') : wpOp P ops Q i K a w := by
  obtain ⟨o, ho, hun, hpre⟩ := ready_spec hp hi hr
  have henv := env_tl hp hc hi ho hpre hun
  have hw' := wantedA_looks (ops := ops) (o := o) henv
  have hop := opA_looks (P := P) (F := F) (ops := ops) (o := o) (H := s.H) henv
  unfold loudRun at hl
  rw [ho] at hl
  simp only at hl
  rw [hw', hop] at hl
  unfold wpOp
  rw [ho]
  simp only
  cases hw : wantedA ops tl o with
  | none => simp [hw] at hl
  | some b =>
    rw [hw] at hl
    rw [wanted_ok hi.ts hw]
    cases b with
    | false =>
      simp only [Option.some.injEq] at hl
      subst hl
      simp only [Bool.false_eq_true, if_false]
      obtain ⟨c1, c2⟩ := loud_inv (a1 := a) hp hc hi ho hq hpre rfl (undef_val (ρ := ρ)) hi.rel (Step.refl ρ s.H w) hi.ds hh
      exact hK _ _ _ _ c1 c2
    | true =>
      simp only [if_true]
      left
      simp only at hl
      cases hr' : opA P F (evA tl) o s.H with
      | none => simp [hr'] at hl
      | some r =>
        rw [hr'] at hl
        have hrun := op_ok hE hF hi.rel hi.ts hr'
        unfold Oper.wp
        cases r with
        | val x =>
          simp only [Option.some.injEq] at hl
          subst hl
          obtain ⟨v, h1, h2⟩ := hrun
          rw [h1, Oper.upon_value]
          obtain ⟨c1, c2⟩ := loud_inv (a1 := a) hp hc hi ho hq hpre rfl h2 hi.rel (Step.refl ρ s.H w) hi.ds hh
          exact hK _ _ _ _ c1 c2
        | new mk B => simp at hl
        | wr x H' =>
          simp only [Option.some.injEq] at hl
          subst hl
          obtain ⟨v, w', ρ', h1, h2, h3, h4⟩ := hrun
          rw [h1, Oper.upon_value]
          obtain ⟨c1, c2⟩ := loud_inv (a1 := a) hp hc hi ho hq hpre rfl h2 h3 h4 (dsOk_mono h4.le _ _ hi.ds) hh
          exact hK _ _ _ _ c1 c2
        | skip H' =>
          simp only [Option.some.injEq] at hl
          subst hl
          obtain ⟨w', h1, h2, h3⟩ := hrun
          rw [h1, Oper.upon_skip]
          obtain ⟨c1, c2⟩ := loud_inv (a1 := a) hp hc hi ho hq hpre rfl undef_val h2 h3 hi.ds hh
          exact hK _ _ _ _ c1 c2
        | enter f args =>
          simp only at hl
          cases hcl : call f args s.H with
          | none => simp [hcl] at hl
          | some q =>
            obtain ⟨rr, H'⟩ := q
            simp only [hcl, Option.some.injEq] at hl
            subst hl
            obtain ⟨vs, h1, h2⟩ := hrun
            rw [h1, Oper.upon_enter]
            refine (hC f args s.H rr H' hcl ρ w vs hi.rel h2).mono ?_
            rintro e w' ⟨ρ', v, rfl, g1, g2, g3⟩
            obtain ⟨c1, c2⟩ := loud_inv (a1 := a) hp hc hi ho hq hpre rfl g1 g2 g3 (dsOk_mono g3.le _ _ hi.ds) hh
            exact hK _ _ _ _ c1 c2
        | defer f args =>
          simp only [Option.some.injEq] at hl
          subst hl
          obtain ⟨d, h1, h2⟩ := hrun
          rw [h1, Oper.upon_defer]
          obtain ⟨c1, c2⟩ := loud_inv (a1 := { a with defers := d :: a.defers }) hp hc hi ho hq hpre rfl (undef_val (ρ := ρ)) hi.rel (Step.refl ρ s.H w) (show dsOk E P ρ ((f, args) :: s.ds) (d :: a.defers) from ⟨d, a.defers, rfl, h2, hi.ds⟩) hh
          exact hK _ _ _ _ c1 c2

/-- What is left of the stages behind the head of one. -/
def afterHead (P : Program) (F : Facts) (call : CallA) (ops : Array Oper) (st : Stat) (T0 : List AV) : List Nat → Nat → DS → Option DS
  | [], _, s => some s
  | i :: r, k, s =>
    match loudRun P F call ops st T0 i s with
    | none => none
    | some s2 => stages P F call ops st T0 r (k + 1) s2

theorem stages_eq (ls : List Nat) (k : Nat) (s : DS) : stages P F call ops st T0 ls k s = (headAt P F ops st T0 k s).bind (afterHead P F call ops st T0 ls k) := by
  cases ls with
  | nil =>
    simp only [stages]
    cases headAt P F ops st T0 k s <;> rfl
  | cons i r =>
    simp only [stages]
    cases headAt P F ops st T0 k s <;> rfl

theorem any_ok (hE : E.Ok) (hF : FactsOk E P F) (hC : CallOk E P call) (hp : Plan ops st) {Q : Exit → Act → World → Prop} {sEnd : DS}
    (hQ : ∀ a' w' ρ', SOk E P ρ0 H0 w0 { ts := sEnd.ts, ds := sEnd.ds, H := sEnd.H } a' w' ρ' → Q .normal a' w') :
    ∀ (fuel k : Nat) (s : DS) (listed : Array Bool) (a : Act) (w : World) (ρ : Rho) (tl : List AV), k ≤ st.louds.length → afterHead P F call ops st T0 (st.louds.drop k) k s = some sEnd →
      RCan P F ops st T0 k s → RInv E P ρ0 H0 w0 ops st T0 k s listed a w ρ tl → (listed.toList.filter (!·)).length ≤ fuel → wpAny P .any ops Q fuel listed a w := by
  have fin : ∀ (k : Nat) (s : DS) (listed : Array Bool) (a : Act) (w : World) (ρ : Rho) (tl : List AV), k ≤ st.louds.length → afterHead P F call ops st T0 (st.louds.drop k) k s = some sEnd →
      RCan P F ops st T0 k s → RInv E P ρ0 H0 w0 ops st T0 k s listed a w ρ tl → Region.ready .any ops listed = [] → Q .normal a w := by
    intro k s listed a w ρ tl hk ha hc hi hr
    have hall := ready_nil hp hi hr
    have hkk : k = st.louds.length := by
      cases hl : st.louds[k]? with
      | none => rw [List.getElem?_eq_none_iff] at hl; omega
      | some l =>
        have := (hi.cut k l hl).1 (hall l (hp.loud k l hl).1)
        omega
    rw [hkk, List.drop_length] at ha
    simp only [afterHead, Option.some.injEq] at ha
    subst ha
    refine hQ a w ρ ⟨?_, hi.rel, hi.step, hi.ds⟩
    have e : tl = s.ts := by
      apply List.ext_getElem?
      intro t
      by_cases hw : ∃ (j : Nat) (p : Oper), ops[j]? = some p ∧ p.dst = some t
      · obtain ⟨j, p, hj, hd⟩ := hw
        exact hi.new j p t (hall j (Array.getElem?_eq_some_iff.1 hj).1) hj hd
      · have hno : ∀ (j : Nat) (p : Oper), ops[j]? = some p → p.dst ≠ some t := fun j p hj hd => hw ⟨j, p, hj, hd⟩
        rw [hc.non t hno, hi.old t fun j p _ hj => hno j p hj]
    rw [← e]
    exact hi.ts
  intro fuel
  induction fuel with
  | zero =>
    intro k s listed a w ρ tl hk ha hc hi hf
    have hr : Region.ready .any ops listed = [] := by
      rw [List.eq_nil_iff_forall_not_mem]
      intro i hi'
      obtain ⟨h1, h2, _⟩ := ready_iff.1 hi'
      have hlt : i < listed.size := by rw [hi.size]; exact h1
      have hm : listed[i] ∈ listed.toList.filter (!·) := by
        rw [List.mem_filter]
        refine ⟨by simp, ?_⟩
        rw [Array.getD_eq_getD_getElem?, Array.getElem?_eq_getElem hlt] at h2
        simp at h2
        simp [h2]
      have : (listed.toList.filter (!·)) = [] := List.length_eq_zero_iff.1 (Nat.le_zero.1 hf)
      rw [this] at hm
      simp at hm
    exact ⟨hr, fin k s listed a w ρ tl hk ha hc hi hr⟩
  | succ fuel ih =>
    intro k s listed a w ρ tl hk ha hc hi hf
    refine ⟨fun hr => fin k s listed a w ρ tl hk ha hc hi hr, fun i hr => ?_⟩
    obtain ⟨o, ho, hun, hpre⟩ := ready_spec hp hi hr
    have hlt : i < listed.size := by rw [hi.size]; exact (Array.getElem?_eq_some_iff.1 ho).1
    have hless : ((listed.setIfInBounds i true).toList.filter (!·)).length ≤ fuel := by
      have hb : listed[i] = false := by
        cases hb : listed[i] with
        | false => rfl
        | true => exact absurd (by rw [Array.getElem?_eq_getElem hlt, hb]) hun
      have key : ∀ (l : List Bool) (i : Nat), l[i]? = some false → ((l.set i true).filter (!·)).length + 1 ≤ (l.filter (!·)).length := by
        intro l
        induction l with
        | nil => intro i h; simp at h
        | cons b l ihl =>
          intro i h
          cases i with
          | zero => simp at h; subst h; simp
          | succ i =>
            simp only [List.getElem?_cons_succ] at h
            have := ihl i h
            cases b <;> simp only [List.set_cons_succ, List.filter_cons, Bool.not_true, Bool.not_false, Bool.false_eq_true, if_false, if_true, List.length_cons] <;> omega
      have := key listed.toList i (by rw [Array.getElem?_toList, Array.getElem?_eq_getElem hlt, hb])
      rw [Array.toList_setIfInBounds]
      omega
    by_cases hq : i ∈ st.louds
    · obtain ⟨p, hpl⟩ := List.mem_iff_getElem?.1 hq
      have hlo := lo_le hp hi ho hpre
      have hlp := (hp.loud p i hpl).2
      have hpk : ¬ p < k := fun h => hun ((hi.cut p i hpl).2 h)
      have e : p = k := by omega
      subst e
      have hplt : p < st.louds.length := (List.getElem?_eq_some_iff.1 hpl).1
      have hdrop : st.louds.drop p = i :: st.louds.drop (p + 1) := by
        rw [List.drop_eq_getElem_cons hplt]
        congr 1
        exact (List.getElem?_eq_some_iff.1 hpl).2
      rw [hdrop] at ha
      simp only [afterHead] at ha
      cases hlr : loudRun P F call ops st T0 i s with
      | none => simp [hlr] at ha
      | some s2 =>
        rw [hlr] at ha
        simp only [stages_eq, Option.bind_eq_some_iff] at ha
        obtain ⟨s3, hh, ha⟩ := ha
        exact loud_step hE hF hC hp hc hi hr hpl hlr hh fun a' w' ρ' tl' c1 c2 => ih (p + 1) s3 _ a' w' ρ' tl' hplt ha c1 c2 hless
    · exact quiet_step hE hF hp hc hi hr hq hk fun a' w' ρ' tl' c2 => ih k s _ a' w' ρ' tl' hk ha hc c2 hless

theorem runAny_ok (hE : E.Ok) (hF : FactsOk E P F) (hC : CallOk E P call) (hm : P.follows .mixedOrders = true) {ops : Array Oper} {st : Stat} (hok : statOk ops st = true) {s s' : St} {a : Act} {w : World} (h : SOk E P ρ0 H0 w0 s a w ρ)
    (hs : runAny P F call ops st s = some s') {id : Nat} {Q : Exit → Act → World → Prop} (hQ : ∀ a' w' ρ', SOk E P ρ0 H0 w0 s' a' w' ρ' → Q .normal a' w') : (Code.region id ops true).wp P Q a w := by
  unfold runAny at hs
  have hp := plan_of hok
  · split at hs
    · simp at hs
    · rename_i d hd
      simp only [Option.some.injEq] at hs
      subst hs
      rw [stages_eq] at hd
      simp only [Option.bind_eq_some_iff] at hd
      obtain ⟨s1, hh, ha⟩ := hd
      refine wp_region_any hm ?_
      have hc := can_head hh rfl fun t _ => rfl
      obtain ⟨h1, h2⟩ := head_ok hh
      have hrel := h.rel.drew (w.drawn + 1)
      obtain ⟨q1, q2⟩ := h1.rel E ρ _ hrel
      have n1 := h.step.next
      have hfalse : ∀ (j : Nat), ¬ (Array.replicate ops.size false)[j]? = some true := by
        intro j hj
        rw [Array.getElem?_replicate] at hj
        split at hj <;> simp at hj
      refine any_ok (T0 := s.ts) hE hF hC hp hQ ops.size 0 s1 _ a _ ρ s.ts (Nat.zero_le _) (by simpa using ha) hc ⟨h.ts, rfl, fun t _ => rfl, fun j p t hj => absurd hj (hfalse j), q1, (h.step.trans (Step.drew ρ s.H w _)).trans q2,
        by rw [h1.ds]; exact h.ds, ?_, ?_, ?_, by simp, fun j o _ hj => absurd hj (hfalse j), fun p l hl => ⟨fun hj => absurd hj (hfalse l), fun hj => absurd hj (Nat.not_lt_zero _)⟩⟩ ?_
      · intro q hq _
        rcases h1.ids q hq with hq | ⟨hq, _⟩
        · simp at hq
        · simp only at hq
          cases e : ρ q.2 with
          | none => rfl
          | some y => have := (h.rel.dom _ y.1 y.2 e).1; omega
      · intro q hq
        rcases h1.ids q hq with hq | ⟨_, hq⟩
        · simp at hq
        · exact hq
      · intro q hq
        rcases h1.ids q hq with hq | ⟨hq, _⟩
        · simp at hq
        · simp only at hq
          omega
      · simp

end
end Go.Ev

/- Code and calls. -/
set_option linter.unusedVariables false
set_option linter.unusedSimpArgs false
namespace Go.Ev

def evCode (P : Program) (F : Facts) (call : CallA) (rounds : Nat) (pl : Nat → Option Stat) : Code → St → Option (Ex × St)
  | .skip, s => some (.normal, s)
  | .label _, s => some (.normal, s)
  | .region id ops d, s =>
    match (if d then (match pl id with | some st => runAny P F call ops st s | none => none) else runSeq P F call ops ops.toList s) with
    | none => none
    | some s' => some (.normal, s')
  | .seq x y, s =>
    match evCode P F call rounds pl x s with
    | some (.normal, s') => evCode P F call rounds pl y s'
    | r => r
  | .cond c x y, s =>
    match evA s.ts c with
    | .bool true => evCode P F call rounds pl x s
    | .bool false => evCode P F call rounds pl y s
    | _ => none
  | .block id x, s =>
    match evCode P F call rounds pl x s with
    | some (.exit id', s') => if id' = id then some (.normal, s') else some (.exit id', s')
    | r => r
  | .loop x, s => iter (evCode P F call rounds pl x) rounds s
  | .exit id, s => some (.exit id, s)
  | .scope x, s => evCode P F call rounds pl x s
  | .ret, s => some (.ret, s)
  | _, _ => none

def toExit : Ex → Exit
  | .normal => .normal
  | .exit id => .exit id
  | .ret => .ret

def resOne (P : Program) (H : Heap) (ts : List AV) : ResultVar → Option AV
  | .tmp t => ts[t]?
  | .cell a t => (ts[a]?).bind (loadA P H t)
def resAll (P : Program) (H : Heap) (ts : List AV) : List ResultVar → Option (List AV)
  | [] => some []
  | r :: rs => (resOne P H ts r).bind fun a => (resAll P H ts rs).map (a :: ·)
def resA (P : Program) (fn : Func) (ts : List AV) (H : Heap) : Option AV :=
  match resAll P H ts fn.results.toList with
  | none => none
  | some [a] => some a
  | some l => some (.tuple l)

/-- The body of a function: where it ends. -/
def evBody (P : Program) (F : Facts) (plans : FuncId → Nat → Option Stat) (call : CallA) (rounds : Nat) (f : FuncId) (args : List AV) (H : Heap) : Option (Func × St) :=
  match P.funcs[f]? with
  | none => none
  | some fn =>
    match fn.body with
    | none => none
    | some c =>
      match evCode P F call rounds (plans f) c { ts := args ++ List.replicate (fn.ntmps - args.length) undefA, ds := [], H := H } with
      | some (.normal, s) => some (fn, s)
      | some (.ret, s) => some (fn, s)
      | _ => none

/-- A deferred call. -/
def evPlain (P : Program) (F : Facts) (plans : FuncId → Nat → Option Stat) (call : CallA) (rounds : Nat) (f : FuncId) (args : List AV) (H : Heap) : Option Heap :=
  match evBody P F plans call rounds f args H with
  | some (fn, s) =>
    match s.ds, resA P fn s.ts s.H with
    | [], some _ => some s.H
    | _, _ => none
  | none => none

def evDefers (P : Program) (F : Facts) (plans : FuncId → Nat → Option Stat) (call : CallA) (rounds : Nat) : List (FuncId × List AV) → Heap → Option Heap
  | [], H => some H
  | (f, args) :: ds, H =>
    match evPlain P F plans call rounds f args H with
    | none => none
    | some H' => evDefers P F plans call rounds ds H'

def ev (P : Program) (F : Facts) (plans : FuncId → Nat → Option Stat) (rounds : Nat) : Nat → CallA
  | 0, _, _, _ => none
  | n + 1, f, args, H =>
    match F.call f args H with
    | some r => some r
    | none =>
      match evBody P F plans (ev P F plans rounds n) rounds f args H with
      | none => none
      | some (fn, s) =>
        match evDefers P F plans (ev P F plans rounds n) rounds s.ds s.H with
        | none => none
        | some H' =>
          match resA P fn s.ts H' with
          | none => none
          | some r => some (r, H')

/-- Every plan of a program is checked. -/
def PlansOk (P : Program) (plans : FuncId → Nat → Option Stat) : Prop := ∀ (f : FuncId) (fn : Func) (c : Code), P.funcs[f]? = some fn → fn.body = some c → codeOk (plans f) c = true

section
variable {E : Env} {P : Program} {F : Facts} {plans : FuncId → Nat → Option Stat} {pl : Nat → Option Stat} {call : CallA} {rounds : Nat}

theorem evCode_ok (hE : E.Ok) (hF : FactsOk E P F) (hC : CallOk E P call) (hm : P.follows .mixedOrders = true) {ρ0 : Rho} {H0 : Heap} {w0 : World} : ∀ (c : Code) (hpl : codeOk pl c = true) (s s' : St) (e : Ex) (a : Act) (w : World) (ρ : Rho) (Q : Exit → Act → World → Prop),
    SOk E P ρ0 H0 w0 s a w ρ → evCode P F call rounds pl c s = some (e, s') → (∀ a' w' ρ', SOk E P ρ0 H0 w0 s' a' w' ρ' → Q (toExit e) a' w') → c.wp P Q a w := by
  intro c
  induction c with
  | skip =>
    intro hpl s s' e a w ρ Q h he hQ
    simp only [evCode, Option.some.injEq, Prod.mk.injEq] at he
    obtain ⟨rfl, rfl⟩ := he
    exact wp_skip (hQ a w ρ h)
  | label l =>
    intro hpl s s' e a w ρ Q h he hQ
    simp only [evCode, Option.some.injEq, Prod.mk.injEq] at he
    obtain ⟨rfl, rfl⟩ := he
    exact wp_label (hQ a w ρ h)
  | region id ops d =>
    intro hpl s s' e a w ρ Q h he hQ
    simp only [evCode] at he
    split at he
    · simp at he
    · rename_i s1 hs
      simp only [Option.some.injEq, Prod.mk.injEq] at he
      obtain ⟨rfl, rfl⟩ := he
      cases d with
      | true =>
        simp only [if_true] at hs
        cases hp : pl id with
        | none => simp [hp] at hs
        | some st =>
          rw [hp] at hs
          simp only [codeOk, hp, Bool.not_true, Bool.false_or] at hpl
          exact runAny_ok hE hF hC hm hpl h hs hQ
      | false => exact wp_region_list (runSeq_ok hE hF hC _ _ _ a w ρ h (by simpa using hs) hQ)
  | seq x y ihx ihy =>
    intro hpl s s' e a w ρ Q h he hQ
    simp only [evCode] at he
    simp only [codeOk, Bool.and_eq_true] at hpl
    refine wp_seq ?_
    cases hx : evCode P F call rounds pl x s with
    | none => simp [hx] at he
    | some q =>
      obtain ⟨e1, s1⟩ := q
      rw [hx] at he
      cases e1 with
      | normal => exact ihx (by first | exact hpl.1 | exact hpl) s s1 .normal a w ρ _ h hx fun a' w' ρ' h' => ihy hpl.2 s1 s' e a' w' ρ' Q h' he hQ
      | exit id =>
        simp only [Option.some.injEq, Prod.mk.injEq] at he
        obtain ⟨rfl, rfl⟩ := he
        exact ihx (by first | exact hpl.1 | exact hpl) s s1 (.exit id) a w ρ _ h hx fun a' w' ρ' h' => hQ a' w' ρ' h'
      | ret =>
        simp only [Option.some.injEq, Prod.mk.injEq] at he
        obtain ⟨rfl, rfl⟩ := he
        exact ihx (by first | exact hpl.1 | exact hpl) s s1 .ret a w ρ _ h hx fun a' w' ρ' h' => hQ a' w' ρ' h'
  | cond c x y ihx ihy =>
    intro hpl s s' e a w ρ Q h he hQ
    simp only [evCode] at he
    simp only [codeOk, Bool.and_eq_true] at hpl
    have hv := evA_val h.ts c
    split at he
    · rename_i hc
      rw [hc] at hv
      exact wp_cond_true (val_bool hv) (ihx hpl.1 s s' e a w ρ Q h he hQ)
    · rename_i hc
      rw [hc] at hv
      exact wp_cond_false (val_bool hv) (ihy hpl.2 s s' e a w ρ Q h he hQ)
    · simp at he
  | block id x ihx =>
    intro hpl s s' e a w ρ Q h he hQ
    simp only [evCode] at he
    refine wp_block ?_
    cases hx : evCode P F call rounds pl x s with
    | none => simp [hx] at he
    | some q =>
      obtain ⟨e1, s1⟩ := q
      rw [hx] at he
      cases e1 with
      | normal =>
        simp only [Option.some.injEq, Prod.mk.injEq] at he
        obtain ⟨rfl, rfl⟩ := he
        exact ihx (by first | exact hpl.1 | exact hpl) s s1 .normal a w ρ _ h hx fun a' w' ρ' h' => hQ a' w' ρ' h'
      | exit id' =>
        simp only at he
        refine ihx (by first | exact hpl.1 | exact hpl) s s1 (.exit id') a w ρ _ h hx fun a' w' ρ' h' => ?_
        simp only [toExit, Exit.inBlock]
        split at he
        · rename_i hid
          simp only [Option.some.injEq, Prod.mk.injEq] at he
          obtain ⟨rfl, rfl⟩ := he
          rw [if_pos hid]
          exact hQ a' w' ρ' h'
        · rename_i hid
          simp only [Option.some.injEq, Prod.mk.injEq] at he
          obtain ⟨rfl, rfl⟩ := he
          rw [if_neg hid]
          exact hQ a' w' ρ' h'
      | ret =>
        simp only [Option.some.injEq, Prod.mk.injEq] at he
        obtain ⟨rfl, rfl⟩ := he
        exact ihx (by first | exact hpl.1 | exact hpl) s s1 .ret a w ρ _ h hx fun a' w' ρ' h' => hQ a' w' ρ' h'
  | loop x ihx =>
    intro hpl s s' e a w ρ Q h he hQ
    simp only [evCode] at he
    refine wp_loop_rounds rounds ?_
    have key : ∀ (n : Nat) (s : St) (a : Act) (w : World) (ρ : Rho), SOk E P ρ0 H0 w0 s a w ρ → iter (evCode P F call rounds pl x) n s = some (e, s') → Code.rounds P x Q n a w := by
      intro n
      induction n with
      | zero => intro s a w ρ h hi; simp [iter] at hi
      | succ n ih =>
        intro s a w ρ h hi
        simp only [iter] at hi
        cases hx : evCode P F call rounds pl x s with
        | none => simp [hx] at hi
        | some q =>
          obtain ⟨e1, s1⟩ := q
          rw [hx] at hi
          rw [rounds_succ]
          cases e1 with
          | normal => exact ihx (by first | exact hpl.1 | exact hpl) s s1 .normal a w ρ _ h hx fun a' w' ρ' h' => ih s1 a' w' ρ' h' hi
          | exit id =>
            simp only [Option.some.injEq, Prod.mk.injEq] at hi
            obtain ⟨rfl, rfl⟩ := hi
            exact ihx (by first | exact hpl.1 | exact hpl) s s1 (.exit id) a w ρ _ h hx fun a' w' ρ' h' => hQ a' w' ρ' h'
          | ret =>
            simp only [Option.some.injEq, Prod.mk.injEq] at hi
            obtain ⟨rfl, rfl⟩ := hi
            exact ihx (by first | exact hpl.1 | exact hpl) s s1 .ret a w ρ _ h hx fun a' w' ρ' h' => hQ a' w' ρ' h'
    exact key rounds s a w ρ h he
  | exit id =>
    intro hpl s s' e a w ρ Q h he hQ
    simp only [evCode, Option.some.injEq, Prod.mk.injEq] at he
    obtain ⟨rfl, rfl⟩ := he
    exact wp_exit (hQ a w ρ h)
  | scope x ihx =>
    intro hpl s s' e a w ρ Q h he hQ
    simp only [evCode] at he
    refine wp_scope_straight (ihx hpl s s' e a w ρ _ h he fun a' w' ρ' h' => ?_)
    have := hQ a' w' ρ' h'
    cases e <;> exact this
  | ret =>
    intro hpl s s' e a w ρ Q h he hQ
    simp only [evCode, Option.some.injEq, Prod.mk.injEq] at he
    obtain ⟨rfl, rfl⟩ := he
    exact wp_ret (hQ a w ρ h)
  | rangeFunc f ps x y _ _ => intro hpl s s' e a w ρ Q h he hQ; simp [evCode] at he
  | goto l => intro hpl s s' e a w ρ Q h he hQ; simp [evCode] at he
  | refuse r => intro hpl s s' e a w ρ Q h he hQ; simp [evCode] at he

theorem start_vals {ρ : Rho} {args : List AV} {vs : Array Value} (h : vals E ρ args vs.toList) (n : Nat) :
    vals E ρ (args ++ List.replicate (n - args.length) undefA) (vs ++ Array.replicate (n - vs.size) undef).toList := by
  have hl := vals_length h
  have hl' : vs.size = args.length := by simpa using hl
  rw [Array.toList_append, Array.toList_replicate, hl']
  refine vals_append h ?_
  induction (n - args.length) with
  | zero => exact vals_nil
  | succ k ih => simp only [List.replicate_succ]; exact vals_cons undef_val ih

theorem body_ok (hE : E.Ok) (hF : FactsOk E P F) (hP : PlansOk P plans) (hC : CallOk E P call) (hm : P.follows .mixedOrders = true) {f : FuncId} {args : List AV} {H : Heap} {fn : Func} {s : St} (he : evBody P F plans call rounds f args H = some (fn, s))
    {ρ : Rho} {w : World} {vs : Array Value} (hr : Rel E ρ H w) (hv : vals E ρ args vs.toList) :
    ∃ c, P.funcs[f]? = some fn ∧ fn.body = some c ∧ ∀ Q : Exit → Act → World → Prop, (∀ a' w' ρ', SOk E P ρ H w s a' w' ρ' → Q .normal a' w' ∧ Q .ret a' w') →
      c.wp P Q { tmps := vs ++ Array.replicate (fn.ntmps - vs.size) undef, defers := [] } w := by
  unfold evBody at he
  cases hf : P.funcs[f]? with
  | none => simp [hf] at he
  | some fn' =>
    rw [hf] at he
    simp only at he
    cases hb : fn'.body with
    | none => simp [hb] at he
    | some c =>
      rw [hb] at he
      simp only at he
      have hs : SOk E P ρ H w { ts := args ++ List.replicate (fn'.ntmps - args.length) undefA, ds := [], H := H } { tmps := vs ++ Array.replicate (fn'.ntmps - vs.size) undef, defers := [] } w ρ :=
        ⟨start_vals hv fn'.ntmps, hr, Step.refl ρ H w, rfl⟩
      split at he
      · rename_i s1 hc
        simp only [Option.some.injEq, Prod.mk.injEq] at he
        obtain ⟨rfl, rfl⟩ := he
        exact ⟨c, rfl, hb, fun Q hQ => evCode_ok hE hF hC hm c (hP f _ c hf hb) _ _ _ _ w ρ Q hs hc fun a' w' ρ' h' => (hQ a' w' ρ' h').1⟩
      · rename_i s1 hc
        simp only [Option.some.injEq, Prod.mk.injEq] at he
        obtain ⟨rfl, rfl⟩ := he
        exact ⟨c, rfl, hb, fun Q hQ => evCode_ok hE hF hC hm c (hP f _ c hf hb) _ _ _ _ w ρ Q hs hc fun a' w' ρ' h' => (hQ a' w' ρ' h').2⟩
      · simp at he

end
end Go.Ev

/- Results, deferred calls, and the whole evaluator: sound. -/
set_option linter.unusedVariables false
set_option linter.unusedSimpArgs false
namespace Go.Ev

section
variable {E : Env} {ρ : Rho} {P : Program} {F : Facts} {call : CallA} {plans : FuncId → Nat → Option Stat} {rounds : Nat} {H : Heap} {w : World}

def oneRes (tmps : Array Value) (r : ResultVar) : Sem Value :=
  match r with
  | .tmp t => pure (tmps.getD t undef)
  | .cell a t => do loadVar t (← asAddr (tmps.getD a undef))

theorem resOne_ok (h : Rd E ρ H w) {ts : List AV} {tmps : Array Value} (hv : vals E ρ ts tmps.toList) {r : ResultVar} {a : AV} (he : resOne P H ts r = some a) : ∃ v, (oneRes tmps r).run P w = .ok v w ∧ val E ρ a v := by
  cases r with
  | tmp t =>
    simp only [resOne] at he
    obtain ⟨v, h1, h2⟩ := vals_get hv he
    refine ⟨v, ?_, h2⟩
    have : tmps[t]? = some v := by simpa using h1
    simp [oneRes, Array.getD_eq_getD_getElem?, this]
  | cell p t =>
    simp only [resOne, Option.bind_eq_some_iff] at he
    obtain ⟨x, hx, he⟩ := he
    obtain ⟨v, h1, h2⟩ := vals_get hv hx
    have hg : tmps[p]? = some v := by simpa using h1
    obtain ⟨u, g1, g2⟩ := load_ok (P := P) h h2 he
    refine ⟨u, ?_, g2⟩
    have hp : ∃ i o, x = .ptr (some (i, o)) := by
      unfold loadA at he
      split at he
      · exact ⟨_, _, rfl⟩
      · simp at he
    obtain ⟨i, o, rfl⟩ := hp
    obtain ⟨b, m, _, rfl⟩ := val_ptr h2
    simp only [Instr.loadAt, Instr.sureAddr, Sem.run_bind, Sem.run_pure, Result.andThen_ok] at g1
    simp [oneRes, Array.getD_eq_getD_getElem?, hg, asAddr, g1]

theorem resAll_ok (h : Rd E ρ H w) {ts : List AV} {tmps : Array Value} (hv : vals E ρ ts tmps.toList) : ∀ (rs : List ResultVar) (l : List AV), resAll P H ts rs = some l →
    ∃ vs, (rs.mapM (oneRes tmps)).run P w = .ok vs w ∧ vals E ρ l vs
  | [], l, he => by
    simp only [resAll, Option.some.injEq] at he
    subst he
    exact ⟨[], by simp, vals_nil⟩
  | r :: rs, l, he => by
    simp only [resAll, Option.bind_eq_some_iff, Option.map_eq_some_iff] at he
    obtain ⟨a, ha, l', hl, rfl⟩ := he
    obtain ⟨v, h1, h2⟩ := resOne_ok (P := P) h hv ha
    obtain ⟨vs, h3, h4⟩ := resAll_ok h hv rs l' hl
    exact ⟨v :: vs, by simp [List.mapM_cons, h1, h3], vals_cons h2 h4⟩

theorem res_ok (h : Rd E ρ H w) {ts : List AV} {tmps : Array Value} (hv : vals E ρ ts tmps.toList) {fn : Func} {a : AV} (he : resA P fn ts H = some a) : ∃ v, (results fn tmps).run P w = .ok v w ∧ val E ρ a v := by
  unfold resA at he
  cases hl : resAll P H ts fn.results.toList with
  | none => simp [hl] at he
  | some l =>
    obtain ⟨vs, h1, h2⟩ := resAll_ok (P := P) h hv _ _ hl
    have hrun : (results fn tmps).run P w = .ok (if hh : vs.toArray.size = 1 then vs.toArray[0] else .tuple vs.toArray) w := by
      have e : results fn tmps = (do let vs ← fn.results.mapM (oneRes tmps); pure (if h : vs.size = 1 then vs[0] else .tuple vs)) := rfl
      rw [e]
      rw [Array.mapM_eq_mapM_toList]
      simp [h1]
    rw [hl] at he
    have hlen := vals_length h2
    match l, he, h2, hlen with
    | [], he, h2, hlen =>
      simp only [Option.some.injEq] at he
      subst he
      rw [vals_nil_inv h2] at hrun
      exact ⟨_, hrun, by simp [val, vals]⟩
    | [a'], he, h2, hlen =>
      simp only [Option.some.injEq] at he
      subst he
      simp only [vals] at h2
      obtain ⟨v, r, rfl, hv, rfl⟩ := h2
      exact ⟨_, hrun, by simpa using hv⟩
    | a' :: b' :: r', he, h2, hlen =>
      simp only [Option.some.injEq] at he
      subst he
      refine ⟨_, hrun, ?_⟩
      have hne : ¬ (vs.toArray.size = 1) := by simp at hlen ⊢; omega
      rw [dif_neg hne]
      simp only [val]
      exact ⟨_, rfl, by simpa using h2⟩

/-- Deferred calls, one behind the other. -/
theorem defers_ok (hE : E.Ok) (hF : FactsOk E P F) (hP : PlansOk P plans) (hC : CallOk E P call) (hm : P.follows .mixedOrders = true) {ρ0 : Rho} {H0 : Heap} {w0 : World} {fn : Func} {ts : List AV} {tmps : Array Value} {r : AV} :
    ∀ (ds : List (FuncId × List AV)) (H H' : Heap) (dsv : List Deferred) (w : World) (ρ : Rho), evDefers P F plans call rounds ds H = some H' → vals E ρ ts tmps.toList → Rel E ρ H w → Step ρ0 H0 w0 ρ H w → dsOk E P ρ ds dsv → resA P fn ts H' = some r →
      Leaves P fn tmps (fun e w' => ∃ ρ' v, e = .returned v ∧ val E ρ' r v ∧ Rel E ρ' H' w' ∧ Step ρ0 H0 w0 ρ' H' w') dsv .returning w
  | [], H, H', dsv, w, ρ, he, hv, hr, hs, hd, hres => by
    simp only [evDefers, Option.some.injEq] at he
    subst he
    simp only [dsOk] at hd
    subst hd
    obtain ⟨v, h1, h2⟩ := res_ok (P := P) hr.toRd hv hres
    exact ⟨v, h1, ρ, v, rfl, h2, hr, hs⟩
  | (f, args) :: ds, H, H', dsv, w, ρ, he, hv, hr, hs, hd, hres => by
    simp only [evDefers] at he
    simp only [dsOk] at hd
    obtain ⟨d, ds', rfl, ⟨cap, vs, ht, hinv, hargs⟩, hd2⟩ := hd
    cases hp : evPlain P F plans call rounds f args H with
    | none => simp [hp] at he
    | some H1 =>
      rw [hp] at he
      refine ⟨by simp, .func f, cap, f, vs, ht, hinv w, ?_⟩
      unfold evPlain at hp
      split at hp
      · rename_i fn' s hb
        split at hp
        · rename_i x hds hx
          simp only [Option.some.injEq] at hp
          subst hp
          obtain ⟨c, hf, hbody, hwp⟩ := body_ok hE hF hP hC hm hb hr hargs
          refine (callsD_of_wp (R := fun e w' => ∃ v, e = .returned v ∧ ∃ ρ', ρ.le ρ' ∧ Rel E ρ' s.H w' ∧ Step ρ H w ρ' s.H w') hf hbody (hwp _ fun a' w' ρ' h' => ?_)).mono ?_
          · have hdd := h'.ds
            rw [hds] at hdd
            simp only [dsOk] at hdd
            obtain ⟨v, g1, g2⟩ := res_ok (P := P) h'.rel.toRd h'.ts hx
            exact ⟨⟨hdd, v, g1, v, rfl, ρ', h'.step.le, h'.rel, h'.step⟩, ⟨hdd, v, g1, v, rfl, ρ', h'.step.le, h'.rel, h'.step⟩⟩
          · rintro e u' w' ⟨rfl, v, rfl, ρ', hle, hr', hs'⟩
            exact defers_ok hE hF hP hC hm ds s.H H' ds' w' ρ' he (vals_mono hle _ _ hv) hr' (hs.trans hs') (dsOk_mono hle _ _ hd2) hres
        · simp at hp
      · simp at hp

theorem below_rel (h : Rel E ρ H w) {w' : World} (hb : RowKit.Below w.heap.size w w') : Rel E ρ H w' ∧ Step ρ H w ρ H w' := by
  refine ⟨⟨⟨fun i b m B hi hg => ?_, h.inj⟩, fun i b m hi => ?_, fun b o hp => ?_⟩, ?_⟩
  · exact blkRel_mono (Rho.le_refl ρ) (hb.block b (h.dom i b m hi).2) B (h.blk i b m B hi hg)
  · have := h.dom i b m hi
    exact ⟨this.1, Nat.lt_of_lt_of_le this.2 hb.size⟩
  · obtain ⟨p1, p2⟩ := h.pin b o hp
    exact ⟨(hb.block b (Array.getElem?_eq_some_iff.1 p1).1).trans p1, p2⟩
  · exact ⟨hb.os, hb.tape, hb.output, hb.size, Rho.le_refl ρ, fun _ _ h => .inl h, Nat.le_refl _, fun b hlt _ => hb.block b hlt, fun _ _ h => h⟩

theorem ev_ok (hE : E.Ok) (hF : FactsOk E P F) (hP : PlansOk P plans) (hm : P.follows .mixedOrders = true) (rounds : Nat) : ∀ n, CallOk E P (ev P F plans rounds n)
  | 0 => by intro f args H r H' h; simp [ev] at h
  | n + 1 => by
    have hC := ev_ok hE hF hP hm rounds n
    intro f args H r H' h ρ w vs hr hv
    simp only [ev] at h
    cases hcall : F.call f args H with
    | some x =>
      rw [hcall] at h
      simp only [Option.some.injEq] at h
      subst h
      exact hF.call f args H r H' hcall ρ w vs hr hv
    | none =>
      rw [hcall] at h
      simp only at h
      split at h
      · simp at h
      · rename_i fn s hb
        split at h
        · simp at h
        · rename_i H1 hd
          split at h
          · simp at h
          · rename_i x hx
            simp only [Option.some.injEq, Prod.mk.injEq] at h
            obtain ⟨rfl, rfl⟩ := h
            obtain ⟨c, hf, hbody, hwp⟩ := body_ok hE hF hP hC hm hb hr hv
            refine calls_of_wp_defers hf hbody (hwp _ fun a' w' ρ' h' => ?_)
            have := defers_ok (rounds := rounds) hE hF hP hC hm s.ds s.H _ a'.defers w' ρ' hd h'.ts h'.rel h'.step h'.ds hx
            exact ⟨this, this⟩

end
end Go.Ev
