/-
  THE ABSTRACT MACHINE, SIXTH PART: stores, appends, and aggregates. No program is named here.
-/
import Derived.Test.YtjmgnodeohmboaaDoorAm4
namespace Go.Proofs.YtjmgnodeohmboaaDoor.Am
set_option linter.unusedSimpArgs false
set_option linter.unusedVariables false
open Go
section
variable {P : Program} {O F F' : Nat → Prop} {w w' : World} {B B' : List Loc} {ts : Nat → AV} {mem mem' : List Blk} {a : Act} {o : Oper}

def spliceV (xs : List Value) (o : Nat) (new : List Value) : List Value := xs.take o ++ new ++ xs.drop (o + new.length)

theorem CR.splice {cs new : List AV} {xs ys : List Value} (h : CR F w B cs xs) (k : CR F w B new ys) (o : Nat) : CR F w B (splice cs o new) (spliceV xs o ys) := by
  unfold Am.splice spliceV
  rw [k.length]
  exact ((h.take o).append k).append (h.drop _)

theorem take_splice {α : Type} (l ys : List α) (p N : Nat) (h : p + ys.length ≤ N) (hN : N ≤ l.length) :
    (l.take p ++ ys ++ l.drop (p + ys.length)).take N = (l.take N).take p ++ ys ++ (l.take N).drop (p + ys.length) := by
  have hl : l = l.take N ++ l.drop N := (List.take_append_drop N l).symm
  have ha : (l.take N).length = N := by simp; omega
  generalize l.take N = a at hl ha ⊢
  generalize l.drop N = b at hl
  subst hl
  have e1 : (a ++ b).take p = a.take p := List.take_append_of_le_length (by omega)
  have e2 : (a ++ b).drop (p + ys.length) = a.drop (p + ys.length) ++ b := List.drop_append_of_le_length (by omega)
  rw [e1, e2, ← List.append_assoc]
  refine List.take_left' ?_
  simp; omega

theorem shaped_one {c : AV} (h : c.shaped = true) : ∀ d ∈ c.cells, d.one = true := by
  cases c <;> first | (simpa [AV.shaped, AV.cells] using h) | (simp [AV.shaped, AV.one] at h)

theorem cells_one {c : AV} (h : c.one = true) : c.cells = [c] := by
  cases c <;> first | rfl | (simp [AV.one] at h)

theorem splice_append_left {α β : List AV} {k : Nat} {new : List AV} (h : k + new.length ≤ α.length) : splice α k new ++ β = splice (α ++ β) k new := by
  simp only [splice, List.append_assoc]
  rw [List.take_append_of_le_length (by omega), List.drop_append_of_le_length (by omega)]
theorem splice_append_right {α β : List AV} {k : Nat} {new : List AV} : α ++ splice β k new = splice (α ++ β) (α.length + k) new := by
  simp only [splice]
  rw [List.take_length_add_append, List.append_assoc, List.append_assoc, List.append_assoc, Nat.add_assoc, List.drop_length_add_append]

theorem cellsAll_set {sz : Nat} {es new : List AV} {i k : Nat} {e : AV} (hs : ∀ e ∈ es, e.cells.length = sz) (he : es[i]? = some e) (hk : k + new.length ≤ e.cells.length) (ho : ∀ c ∈ new, c.one = true) :
    AV.cellsAll (es.set i (e.recell (splice e.cells k new))) = splice (AV.cellsAll es) (i * sz + k) new ∧ ∀ d ∈ es.set i (e.recell (splice e.cells k new)), d.cells.length = sz := by
  have hrc : (e.recell (splice e.cells k new)).cells = splice e.cells k new := by
    cases e with
    | agg cs => rfl
    | _ =>
      simp only [AV.cells, List.length_singleton] at hk
      simp only [AV.recell, AV.cells]
      match new, hk, ho with
      | [], hk, _ => cases k with
        | zero => rfl
        | succ k => cases k with
          | zero => rfl
          | succ k => simp at hk
      | [c], hk, ho =>
        have : k = 0 := by simp at hk; omega
        subst this
        simp only [splice, List.take_zero, List.nil_append, List.length_singleton, List.drop_succ_cons, List.drop_nil, List.append_nil, List.headD_cons]
        exact cells_one (ho c (by simp))
      | _ :: _ :: _, hk, _ => exact absurd hk (by simp only [List.length_cons]; omega)
  have hel : e.cells.length = sz := hs e (List.mem_of_getElem? he)
  have hrl : (e.recell (splice e.cells k new)).cells.length = sz := by
    rw [hrc]; simp only [splice, List.length_append, List.length_take, List.length_drop]; omega
  refine ⟨?_, fun d hd => ?_⟩
  · generalize e.recell (splice e.cells k new) = e' at hrc
    clear hrl
    induction es generalizing i with
    | nil => simp at he
    | cons x es ih =>
      cases i with
      | zero =>
        simp at he; subst he
        simp only [List.set_cons_zero, AV.cellsAll, hrc, Nat.zero_mul, Nat.zero_add]
        exact splice_append_left hk
      | succ i =>
        simp only [List.getElem?_cons_succ] at he
        simp only [List.set_cons_succ, AV.cellsAll]
        rw [ih (fun e he => hs e (by simp [he])) he, splice_append_right, hs x (by simp)]
        congr 1
        rw [Nat.add_mul]; omega
  · rcases List.mem_or_eq_of_mem_set hd with hd | rfl
    · exact hs d hd
    · exact hrl

/-- The cells of a store's target. -/
theorem put_ok {new : List AV} {ys : List Value} {p : AV} {x : Value} (h : putAt mem new p = some mem') (hm : MR O F w B mem) (hv : VR F w B p x) (hn : CR F w B new ys) (h1 : ∀ u ∈ ys, u.oneCell' = true) (ho : ∀ c ∈ new, c.one = true) :
    ∃ b k, x = .pointer (some ⟨b, k, none⟩) ∧ ∃ w', (storeCells ⟨b, k, none⟩ ys).run P w = .ok () w' ∧ MR O F w' B mem' ∧ Ext F F w w' B B ∧ Ev O w w' := by
  unfold putAt at h
  split at h
  · rename_i id i k
    split at h
    · rename_i cs hi
      split at h
      · rename_i hc
        obtain ⟨rfl, hle⟩ := hc
        cases h
        have hlt := (List.getElem?_eq_some_iff.1 hi).1
        obtain ⟨l, hl⟩ : ∃ l, B[id]? = some l := ⟨_, List.getElem?_eq_getElem (by rw [hm.len]; exact hlt)⟩
        have hbr := hm.br id _ l hi hl
        match l, hbr, hl with
        | .var b, ⟨t, xs, h2, h3⟩, hl =>
          have hx : x = .pointer (some ⟨b, k, none⟩) := by
            cases hv with
            | ptrV h => rw [hl] at h; cases h; rfl
            | ptrA h => rw [hl] at h; cases h
          have hsz : k + ys.length ≤ xs.length := by rw [hn.length, h3.length]; exact hle
          have hrun := run_storeCells_at P b k t ys 0 xs.toArray w h2 (by simpa using hsz) h1
          simp only [Nat.add_zero] at hrun
          obtain ⟨m1, e1⟩ := hm.write (w' := w.setRow b (xs.take k ++ ys ++ xs.drop (k + ys.length)).toArray) (k := .var (splice cs k new)) hi hl rfl rfl (by simp) (fun c hc => setRow_other w b c _ hc)
            (fun e => ⟨t, _, setRow_heap w b _ _ t _ h2, (h3.splice hn k).mono e⟩)
          exact ⟨b, k, hx, _, hrun, m1, e1, ⟨rfl, rfl, rfl, by simp, fun c _ ho => setRow_other w b c _ (fun hcb => ho (hcb ▸ (hm.own id b (ownB_mk hi hl rfl rfl)).1))⟩⟩
      · cases h
    · rename_i t sz es hi
      split at h
      · rename_i e he
        split at h
        · rename_i hc
          obtain ⟨hle, hbare⟩ := hc
          cases h
          have hlt := (List.getElem?_eq_some_iff.1 hi).1
          obtain ⟨l, hl⟩ : ∃ l, B[id]? = some l := ⟨_, List.getElem?_eq_getElem (by rw [hm.len]; exact hlt)⟩
          have hbr := hm.br id _ l hi hl
          match l, hbr, hl with
          | .arr sz' g n cap, ⟨h2, h3, h4, h5, xs, h6, h7⟩, hl =>
            subst h2; subst h4
            have hib : i < es.length := (List.getElem?_eq_some_iff.1 he).1
            have hel : e.cells.length = sz := h5 e (List.mem_of_getElem? he)
            rcases h6.2 with ⟨_, h9⟩ | ⟨g', cap', cur, h9, _, hblk, hnc, hcm, hcs, htk⟩
            · omega
            · have hg : g = some g' ∧ cap = cap' := by
                cases g with
                | none => simp [head] at h9
                | some g => simp [head] at h9; exact ⟨by rw [h9.1], h9.2⟩
              obtain ⟨rfl, rfl⟩ := hg
              have hx : x = .pointer (some ⟨g', i * sz + k, none⟩) := by
                cases hv with
                | ptrV h => rw [hl] at h; cases h
                | ptrA h => rw [hl] at h; cases h; rfl
              have hyl : ys.length = new.length := hn.length
              have hmul : i * sz + sz ≤ es.length * sz := by
                have : (i + 1) * sz ≤ es.length * sz := Nat.mul_le_mul_right sz hib
                rw [Nat.add_mul] at this; omega
              have hmul2 : es.length * sz ≤ cap * sz := Nat.mul_le_mul_right sz hnc
              have hsz : i * sz + k + ys.length ≤ cur.size := by rw [hcs]; omega
              have hrun := run_storeCells_at P g' (i * sz + k) t ys 0 cur w hblk (by simpa using hsz) h1
              simp only [Nat.add_zero] at hrun
              have hset := cellsAll_set h5 he hle ho
              obtain ⟨m1, e1⟩ := hm.write (w' := w.setRow g' (cur.toList.take (i * sz + k) ++ ys ++ cur.toList.drop (i * sz + k + ys.length)).toArray) (k := .arr t sz (es.set i (e.recell (splice e.cells k new)))) hi hl rfl rfl (by simp)
                (fun c hc => setRow_other w g' c _ hc)
                (fun e0 => by
                  refine ⟨rfl, h3, by simp, hset.2, spliceV xs (i * sz + k) ys, ⟨?_, .inr ⟨g', cap, _, by simp [head], Nat.zero_le _, setRow_heap w g' _ _ t _ hblk, by simpa using hnc, hcm, ?_, ?_⟩⟩, ?_⟩
                  · have := h6.1
                    simp only [spliceV, List.length_append, List.length_take, List.length_drop, List.length_set]
                    omega
                  · simp only [List.size_toArray, List.length_append, List.length_take, List.length_drop, Array.length_toList]
                    omega
                  · have hl0 := h6.1
                    rw [← htk]
                    simp only [spliceV, List.length_set]
                    have := take_splice cur.toList ys (i * sz + k) (es.length * sz) (by omega) (by simpa [hcs] using hmul2)
                    rw [List.append_assoc] at this ⊢
                    simpa using this
                  · rw [hset.1]
                    exact (h7.mono e0.bare).splice ((hn.toBare hbare).mono e0.bare) _)
              exact ⟨g', i * sz + k, hx, _, hrun, m1, e1, ⟨rfl, rfl, rfl, by simp, fun c _ ho => setRow_other w g' c _ (fun hcb => ho (hcb ▸ (hm.own id g' (ownB_mk hi hl rfl rfl)).1))⟩⟩
        · cases h
      · cases h
    · cases h
  · cases h

theorem go_st (t : TypeId) (x y : Operand) (n : Nat) (ho : o.op = .store t x y) (hk : szOf P t = some n) (hs : ((compOpd y).ev ts).shaped = true) (hl : ((compOpd y).ev ts).cells.length = n)
    (hp : putAt mem ((compOpd y).ev ts).cells ((compOpd x).ev ts) = some mem') (hm : MR O F w B mem) (ht : TR F w B ts a) : Goes P O F w B o a (.ret .any) mem' := by
  obtain ⟨hc, h1⟩ := (opd_ok ht y).shaped hs
  obtain ⟨b, k, hx, w', hrun, m1, e1, ev1⟩ := put_ok (P := P) hp hm (opd_ok ht x) hc h1 (shaped_one hs)
  intro K Q h
  unfold Oper.wp
  have : (execOp a.eval o).run P w = .ok .skip w' := by
    have hsz : (a.eval y).cells.size = n := by rw [← Array.length_toList, hc.length, hl]
    simp only [execOp, ho, Instr.storeAt, hx, Instr.sureAddr, storeVar, Sem.run_bind, Sem.run_pure, Result.andThen_ok, run_size hk, hsz]
    simp [hrun]
  rw [this]
  exact h undef w' F B m1 e1 ev1 (fun _ h => .inl h) (.any _)

/-- An owned slice's place behind an append. -/
theorem own_append {t sz n m : Nat} {es es2 : List AV} {xs news : List Value} {v' : Value} (hm : MR O F w B mem) (hO : ∀ b, w.heap.size ≤ b → O b) (hsz : 0 < sz) {row : Option Nat}
    (hrow : w'.ownsRow 0 t sz v' (n + m) (xs ++ news)) (hg : w.grownBy w' row) (hn : n = es.length) (hm2 : m = es2.length) (h1 : CR F w [] (AV.cellsAll es) xs) (h2 : CR F w [] (AV.cellsAll es2) news)
    (hs : ∀ e ∈ es ++ es2, e.cells.length = sz) (hr : ∀ b, row = some b → O b ∧ ¬ F b ∧ ∀ i, ownB mem B i ≠ some b)
    (hv : ∀ b, v'.ownBlock = some b → row = some b ∨ w.heap.size ≤ b) :
    ∃ l, MR O F w' (B ++ [l]) (mem ++ [.arr t sz (es ++ es2)]) ∧ Ext F F w w' B (B ++ [l]) ∧ Ev O w w' ∧ VR F w' (B ++ [l]) (.osl mem.length) v' := by
  have keep : ∀ b, (F b ∨ ∃ i, ownB mem B i = some b) → w'.heap[b]? = w.heap[b]? := fun b hb => hg.block b (hm.old hb) (fun e => by
    obtain ⟨_, hnf, hno⟩ := hr b e.symm
    rcases hb with hb | ⟨i, hb⟩
    · exact hnf hb
    · exact hno i hb)
  have e0 : Ext F F w w' [] [] := ⟨fun _ h => h, fun _ _ h => h, fun b hb => keep b (.inl hb)⟩
  obtain ⟨l, hlv, hlb⟩ : ∃ l : Loc, (∃ g cap, l = .arr sz g (n + m) cap ∧ v' = head g (n + m) cap) ∧ ∀ b, l.block = some b → v'.ownBlock = some b ∧ b < w'.heap.size := by
    rcases hrow.2 with ⟨hv', h0⟩ | ⟨g, cap, cur, hv', _, hblk, _⟩
    · exact ⟨.arr sz none (n + m) 0, ⟨none, 0, rfl, by rw [hv', h0]; rfl⟩, fun b hb => by cases hb⟩
    · exact ⟨.arr sz (some g) (n + m) cap, ⟨some g, cap, rfl, hv'⟩, fun b hb => by cases hb; exact ⟨by rw [hv']; rfl, (Array.getElem?_eq_some_iff.1 hblk).1⟩⟩
  obtain ⟨g, cap, rfl, rfl⟩ := hlv
  refine ⟨.arr sz g (n + m) cap, hm.push hg.size keep ?_ ?_, ⟨fun _ h => h, (ext_append F w B _).pl, fun b hb => keep b (.inl hb)⟩, ⟨hg.os, hg.tape, hg.output, hg.size, fun b hb ho => hg.block b hb (fun e => ho (hr b e.symm).1)⟩, .osl (sz := sz) (by rw [← hm.len]; simp)⟩
  · refine ⟨rfl, hsz, by simp [hn, hm2], hs, xs ++ news, hrow, ?_⟩
    rw [AV.cellsAll_append]
    exact (h1.append h2).mono e0
  · intro _ b hb
    obtain ⟨hob, hlt⟩ := hlb b hb
    rcases hv b hob with hr' | hge
    · obtain ⟨h3, h4, h5⟩ := hr b hr'
      exact ⟨h5, h4, hlt, h3⟩
    · exact ⟨(hm.fresh hge).1, (hm.fresh hge).2, hlt, hO b hge⟩

theorem CR.onesAll {es : List AV} {xs : List Value} (h : CR F w B (AV.cellsAll es) xs) (hs : es.all AV.shaped = true) : ∀ u ∈ xs, u.oneCell' = true := by
  refine CR.ones h ?_
  induction es generalizing xs with
  | nil => rfl
  | cons e es ih =>
    simp only [List.all_cons, Bool.and_eq_true] at hs
    simp only [AV.cellsAll, List.all_append, Bool.and_eq_true]
    obtain ⟨x1, x2, _, _, h2⟩ := CR.splitL h
    refine ⟨?_, ih h2 hs.2⟩
    rw [List.all_eq_true]
    exact shaped_one hs.1

theorem run_append_none (t ty e : TypeId) (i : TypeInfo) (ht : P.underlying t = some (.slice e)) (hi : P.info? e = some i) {size n c : Nat} {v : Value} {xs : List Value} (hs : i.size = size) (hown : w.ownsRow 0 e size v n xs) (base : Option Addr) :
    (Builtin.append_ #[t, t] ty #[v, .slice base 0 c]).run P w = .ok v w := by
  have key : ∀ b cap, v = .slice b n cap → n ≤ cap → (Builtin.append_ #[t, t] ty #[.slice b n cap, .slice base 0 c]).run P w = .ok (.slice b n cap) w := by
    intro b cap _ hle
    cases base <;> cases b <;> simp [Builtin.append_, run_under ht, sizeOf, typeInfo, hi, Builtin.lenOf, Builtin.firstCells, hle, loadCells, loadCellsFrom, storeCells]
  rcases hown.2 with ⟨rfl, rfl⟩ | ⟨g, cap, cur, rfl, _, _, hnc, _⟩
  · exact key none 0 rfl (Nat.le_refl _)
  · exact key _ cap rfl hnc

theorem info_of {t : TypeId} {n : Nat} (h : szOf P t = some n) : ∃ i, P.info? t = some i ∧ i.size = n := by
  unfold szOf at h
  cases hi : P.info? t with
  | none => simp [hi] at h
  | some i => simp [hi] at h; exact ⟨i, rfl, h⟩

/-- An append, from any source: the slice behind it lies where it lay, or in a block that is new. -/
theorem run_app {t u ty e : TypeId} {i : TypeInfo} {z : Value} {sz byt n m : Nat} {v x : Value} {xs news : List Value} {d : TypeDesc} (ht : P.underlying t = some (.slice e)) (hi : P.info? e = some i) (hz : i.zero = some z)
    (hsize : i.size = sz) (hby : i.bytes = byt) (hzs : z.cells.size = sz) (hu : P.underlying u = some d) (hd : d = .string ∨ ∃ e', d = .slice e') (hown : w.ownsRow 0 e sz v n xs)
    (hx1 : Builtin.lenOf x = pure m) (hx2 : ∀ w1 : World, w1.heap = w.heap → (Builtin.firstCells sz m x).run P w1 = .ok news.toArray w1) (hl : news.length = m * sz) (ho : ∀ u ∈ news, u.oneCell' = true)
    (h1 : (n + m) * byt ≤ 140737488355328) (h2 : n + m ≤ 140737488355328) :
    ∃ v' w', (Builtin.append_ #[t, u] ty #[v, x]).run P w = .ok v' w' ∧ w'.ownsRow 0 e sz v' (n + m) (xs ++ news) ∧ w.grownBy w' v.ownBlock ∧ (∀ b, v'.ownBlock = some b → v.ownBlock = some b ∨ w.heap.size ≤ b) := by
  subst hsize
  subst hby
  have hlen : (xs ++ news).length = (n + m) * i.size := by rw [List.length_append, hown.1, hl, Nat.add_mul]
  have h63 : n + m ≤ maxLen := by simp only [maxLen]; omega
  have grow : ∀ (b0 : Option Addr) (cap : Nat), cap < n + m → (∀ w1 : World, w1.heap = w.heap → (Builtin.firstCells i.size n (.slice b0 n cap)).run P w1 = .ok xs.toArray w1) →
      ∃ v' w', (Builtin.append_ #[t, u] ty #[.slice b0 n cap, x]).run P w = .ok v' w' ∧ w'.ownsRow 0 e i.size v' (n + m) (xs ++ news) ∧ w.grownBy w' (Value.slice b0 n cap).ownBlock ∧ (∀ b, v'.ownBlock = some b → (Value.slice b0 n cap).ownBlock = some b ∨ w.heap.size ≤ b) := by
    intro b0 cap hcap hf
    have hge := grownCap_ge w (n + m) cap e
    have hcm : grownCap w (n + m) cap e ≤ maxLen := grownCap_le_maxLen w (n + m) cap e h63
    have hn : ¬ (n + m ≤ cap) := by omega
    have h63' : ¬ (9223372036854775807 < ((n : Int) + (m : Int))) := by omega
    have hfit : Builtin.nextslicecap (n + m) cap * i.bytes ≤ 281474976710656 := growslice_fits (by omega) h1
    have h48' : ¬ (281474976710656 < Builtin.nextslicecap (n + m) cap * i.bytes) := by omega
    refine ⟨.slice (some ⟨w.heap.size, 0, none⟩) (n + m) (grownCap w (n + m) cap e), w.drew.alloc (.cells (xs.toArray ++ news.toArray ++ Builtin.zeroCells z.cells (grownCap w (n + m) cap e - (n + m))) e), ?_,
      ⟨hlen, .inr ⟨w.heap.size, _, _, rfl, Nat.zero_le _, alloc_new w.drew _, hge, hcm, ?_, ?_⟩⟩, ⟨rfl, rfl, rfl, by simp, fun k hk _ => alloc_old w.drew _ k hk⟩, fun b hb => by cases hb; exact .inr (Nat.le_refl _)⟩
    · have hf' := hf w.drew rfl
      have hx2' := hx2 w.drew rfl
      rcases hd with rfl | ⟨e', rfl⟩ <;> simp [Builtin.append_, run_under ht, run_under hu, sizeOf, typeInfo, zeroValue, hi, hz, hx1, hn, h63', h48', Question.forced, hf', hx2', newRow, grownCap] <;> (congr 2; apply Array.ext'; simp [List.append_assoc])
    · simp only [Array.size_append, List.size_toArray, size_zeroCells, hzs, hown.1, hl, ← Nat.add_mul]
      congr 1
      omega
    · simp only [Array.toList_append, List.append_assoc]
      rw [← List.append_assoc, ← hlen]
      exact List.take_left
  rcases hown.2 with ⟨rfl, rfl⟩ | ⟨g, cap, cur, rfl, _, hg, hnc, hcm, hcs, htk⟩
  · have hx : xs = [] := List.eq_nil_of_length_eq_zero (by simpa using hown.1)
    subst hx
    by_cases hm : m = 0
    · subst hm
      have hn : news = [] := List.eq_nil_of_length_eq_zero (by simpa using hl)
      subst hn
      refine ⟨.slice none 0 0, w, ?_, World.ownsRow_nil w 0 e i.size, ⟨rfl, rfl, rfl, Nat.le_refl _, fun _ _ _ => rfl⟩, fun b hb => by cases hb⟩
      have hx2' := hx2 w rfl
      rcases hd with rfl | ⟨e', rfl⟩ <;> simp [Builtin.append_, run_under ht, run_under hu, sizeOf, typeInfo, hi, hx1, hx2']
    · exact grow none 0 (by omega) (fun w1 _ => by simp [Builtin.firstCells])
  · by_cases hroom : n + m ≤ cap
    · have hfit : n * i.size + news.length ≤ cur.size := by rw [hl, hcs, ← Nat.add_mul]; exact Nat.mul_le_mul_right _ hroom
      have hst := run_storeCells_at P g (n * i.size) e news 0 cur w hg (by simpa using hfit) ho
      simp only [Nat.add_zero] at hst
      refine ⟨.slice (some ⟨g, 0, none⟩) (n + m) cap, w.setRow g (cur.toList.take (n * i.size) ++ news ++ cur.toList.drop (n * i.size + news.length)).toArray, ?_,
        ⟨hlen, .inr ⟨g, cap, _, rfl, Nat.zero_le _, setRow_heap w g cur _ e _ hg, hroom, hcm, ?_, ?_⟩⟩, ⟨rfl, rfl, rfl, by simp, fun k _ hk => setRow_other w g k _ (fun e => hk (by simp [Value.ownBlock, e]))⟩, fun b hb => .inl hb⟩
      · have hx2' := hx2 w rfl
        rcases hd with rfl | ⟨e', rfl⟩ <;> simp [Builtin.append_, run_under ht, run_under hu, sizeOf, typeInfo, hi, hx1, hroom, hx2', Addr.add_lit, hst]
      · simp only [List.size_toArray, List.length_append, List.length_take, List.length_drop, Array.length_toList]
        omega
      · rw [htk, ← hlen]
        exact List.take_left
    · have holds : ∀ j u, xs[j]? = some u → w.cell? ((⟨g, 0, none⟩ : Addr).add j) = some u := hown.cells (g := g) rfl
      exact grow (some ⟨g, 0, none⟩) cap (by omega) (fun w1 hw1 => run_firstCells_some (P := P) w1 i.size n ⟨g, 0, none⟩ n cap xs hown.1 (fun j u hj => by
        have := holds j u hj
        simpa [World.cell?, hw1] using this))

/-- The source of an append: a slice of any kind. -/
theorem src_slice {x : AV} {y : Value} {sz2 sz : Nat} {es2 : List AV} (h : elems mem x = some (sz2, es2)) (hm : MR O F w B mem) (hv : VR F w B x y) (hs : sz2 = sz ∨ es2 = []) (hsh : es2.all AV.shaped = true) :
    ∃ news, Builtin.lenOf y = pure es2.length ∧ (∀ w1 : World, w1.heap = w.heap → (Builtin.firstCells sz es2.length y).run P w1 = .ok news.toArray w1) ∧ news.length = es2.length * sz ∧ (∀ u ∈ news, u.oneCell' = true) ∧
      CR F w [] (AV.cellsAll es2) news ∧ ∀ e ∈ es2, e.cells.length = sz := by
  obtain ⟨base, cap, rfl, hsz, hr⟩ := elems_ok h hm hv
  by_cases hne : es2 = []
  · subst hne
    refine ⟨[], rfl, fun w1 _ => ?_, by simp, by simp, .nil, by simp⟩
    cases base <;> simp [Builtin.firstCells, loadCells, loadCellsFrom]
  · have hs' : sz2 = sz := hs.resolve_right hne
    subst hs'
    obtain ⟨b, p, ys, rfl, hc, hcell⟩ := hr hne
    have hl : ys.length = es2.length * sz2 := by rw [hc.length, AV.cellsAll_length hsz]
    refine ⟨ys, rfl, fun w1 hw1 => run_firstCells_some (P := P) w1 sz2 es2.length ⟨b, p, none⟩ es2.length cap ys hl (fun j u hj => ?_), hl, hc.onesAll hsh, hc, hsz⟩
    rw [add_plain]
    have := hcell j u hj
    simpa [World.cell?, hw1] using this

end
end Go.Proofs.YtjmgnodeohmboaaDoor.Am
