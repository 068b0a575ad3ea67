/-
  THE ABSTRACT MACHINE, ELEVENTH PART: all operations in one word. No program is named here.
-/
import Derived.Test.YtjmgnodeohmboaaDoorAmW
import Derived.Lib.ConvBytes
namespace Go.Proofs.YtjmgnodeohmboaaDoor.Am
set_option linter.unusedSimpArgs false
set_option linter.unusedVariables false
open Go
section
variable {P : Program} {O F F' : Nat → Prop} {w w' : World} {B B' : List Loc} {ts : Nat → AV} {mem mem' : List Blk} {a : Act} {o : Oper}

theorem bytes_av (s : List UInt8) : CR F w [] (AV.cellsAll (s.map fun b => AV.v (.int .u8 b.toNat))) (s.map fun b => Value.int .u8 b.toNat) := by
  induction s with
  | nil => exact .nil
  | cons b s ih => exact .cons (.v _) ih

theorem bytes_av_len (s : List UInt8) : ∀ e ∈ (s.map fun b => AV.v (.int .u8 b.toNat)), e.cells.length = 1 := by
  intro e he
  simp only [List.mem_map] at he
  obtain ⟨b, _, rfl⟩ := he
  rfl

theorem bytes_av_shaped (s : List UInt8) : (s.map fun b => AV.v (.int .u8 b.toNat)).all AV.shaped = true := by
  induction s with
  | nil => rfl
  | cons b s ih => simp [AV.shaped, AV.one, Value.oneCell']

theorem go_s2b (st dt e : TypeId) (x : Operand) (s : ByteArray) (ho : o.op = .convert st dt x) (h1 : P.underlying st = some .string) (h2 : P.underlying dt = some (.slice e)) (h3 : P.underlying e = some (.int .u8)) (hx : (compOpd x).ev ts = .v (.string s))
    (hO : ∀ b, w.heap.size ≤ b → O b) (hm : MR O F w B mem) (ht : TR F w B ts a) : Goes P O F w B o a (.ret (.fsl 1 (s.data.toList.map fun b => .v (.int .u8 b.toNat)))) mem := by
  have hv := opd_ok ht x
  rw [hx] at hv
  have hrun := Lib.run_convert_string_bytes w st dt e s h1 h2 h3
  have hsz := Lib.bytesWorld_size w e s
  have hold : ∀ b, b < w.heap.size → (Lib.bytesWorld w e s).heap[b]? = w.heap[b]? := fun b hb => Lib.bytesWorld_at_old w e s b hb
  have m1 : MR O (fun b => F b ∨ b = w.heap.size) (Lib.bytesWorld w e s) B mem := by
    have e1 : Ext F (fun b => F b ∨ b = w.heap.size) w (Lib.bytesWorld w e s) B B := ⟨fun b hb => .inl hb, fun _ _ h => h, fun b hb => hold b (hm.fr b hb)⟩
    refine ⟨hm.len, fun i b l q1 q2 => (hm.br i b l q1 q2).mono e1 (fun ho k hk => hold k (hm.own i k (ownB_mk q1 q2 ho hk)).2.2), hm.sep, fun i b hi => ?_, fun b hb => ?_, hm.gl.mono e1.fr e1.hp⟩
    · obtain ⟨g1, g2, g3⟩ := hm.own i b hi
      exact ⟨g1, fun hb => by rcases hb with hb | hb; exact g2 hb; omega, by omega⟩
    · rcases hb with hb | hb
      · have := hm.fr b hb; omega
      · omega
  have e1 : Ext F (fun b => F b ∨ b = w.heap.size) w (Lib.bytesWorld w e s) B B := ⟨fun b hb => .inl hb, fun _ _ h => h, fun b hb => hold b (hm.fr b hb)⟩
  have ev1 : Ev O w (Lib.bytesWorld w e s) := ⟨rfl, rfl, rfl, by omega, fun k hk _ => hold k hk⟩
  refine .value (x := .slice (some ⟨w.heap.size, 0, none⟩) s.size (grownCap w s.size 0 e)) (w' := Lib.bytesWorld w e s) ?_ m1 e1 ev1 (fun b hb => ?_) ?_
  · simp only [execOp, ho, hv.of_v, Sem.run_bind, hrun, Result.andThen_ok, Sem.run_pure]
  · rcases hb with hb | hb
    · exact .inl hb
    · exact .inr (hO b (by omega))
  · have hlen : (s.data.toList.map fun b => AV.v (.int .u8 b.toNat)).length = s.size := by simp
    have := VR.fsl (F := fun b => F b ∨ b = w.heap.size) (w := Lib.bytesWorld w e s) (B := B) (sz := 1) (es := s.data.toList.map fun b => AV.v (.int .u8 b.toNat)) w.heap.size 0 (grownCap w s.size 0 e) (bytes_av _) (bytes_av_len _) (.inr rfl)
      (fun j x hj => by
        simp only [List.getElem?_map, Option.map_eq_some_iff] at hj
        obtain ⟨b, hb, rfl⟩ := hj
        have hlt : j < s.size := by have := (List.getElem?_eq_some_iff.1 hb).1; simpa using this
        have hc := Lib.bytesWorld_cell w e s j hlt
        rw [Nat.zero_add, hc, List.getD_eq_getElem?_getD, hb]; simp) (by rw [hlen]; exact grownCap_ge w s.size 0 e)
    rw [hlen] at this
    exact this

theorem str_src (s : ByteArray) : Builtin.lenOf (.string s) = pure s.size ∧ (∀ w1 : World, w1.heap = w.heap → (Builtin.firstCells 1 s.size (.string s)).run P w1 = .ok (s.data.toList.map fun b => Value.int .u8 b.toNat).toArray w1) ∧
    (s.data.toList.map fun b => Value.int .u8 b.toNat).length = s.size * 1 ∧ (∀ u ∈ (s.data.toList.map fun b => Value.int .u8 b.toNat), u.oneCell' = true) := by
  refine ⟨rfl, fun w1 _ => Lib.run_firstCells_string (P := P) w1 1 s, by simp, fun u hu => ?_⟩
  simp only [List.mem_map] at hu
  obtain ⟨b, _, rfl⟩ := hu
  rfl

theorem isU8_under {t : TypeId} (h : isU8 P t = true) : P.underlying t = some (.int .u8) := by
  unfold isU8 at h
  split at h
  · assumption
  · cases h

theorem elemOf_under {t e : TypeId} (h : elemOf? P t = some e) : P.underlying t = some (.slice e) := by
  unfold elemOf? at h
  split at h
  · cases h; assumption
  · cases h

theorem structOf_under {t : TypeId} {fs : Array Field} (h : structOf P t = some fs) : P.underlying t = some (.struct fs) := by
  unfold structOf at h
  split at h
  · cases h; assumption
  · cases h

/-- EVERY OPERATION GOES AS THE ABSTRACT ONE SAYS. -/
theorem step_sound (Γ : Env) (hΓ : EnvOk P Γ) {ao : AOp} {r : Res} (hc : compOp P o.type o.op = some ao) (hs : stepA Γ ts mem ao = some (r, mem'))
    (hO : ∀ b, w.heap.size ≤ b → O b) (hm : MR O F w B mem) (ht : TR F w B ts a) : Goes P O F w B o a r mem' := by
  generalize hop : o.op = op at hc
  cases op with
  | move x =>
    simp only [compOp] at hc; cases hc
    simp only [stepA] at hs; cases hs
    exact go_mov x (.inl hop) hm ht
  | assign x =>
    simp only [compOp] at hc; cases hc
    simp only [stepA] at hs; cases hs
    exact go_mov x (.inr hop) hm ht
  | pick c x y =>
    simp only [compOp] at hc; cases hc
    simp only [stepA] at hs
    split at hs
    · rename_i t hct
      have hg := go_pick (P := P) (O := O) c x y t hop hct hm ht
      split at hs
      · rename_i b1 b2 h1 h2
        cases hs
        rw [h1, h2] at hg
        cases t <;> exact hg
      · cases hs; exact hg
    · cases hs
  | alloc t =>
    simp only [compOp] at hc
    cases hz : zeroOf P t with
    | none => simp [hz] at hc
    | some z =>
      simp [hz] at hc; subst hc
      simp only [stepA] at hs; cases hs
      exact go_alloc t z hop hz hO hm
  | box t x =>
    simp only [compOp] at hc; cases hc
    simp only [stepA] at hs
    split at hs
    · cases hs; exact go_box t x hop ‹_› hO hm ht
    · cases hs
  | build t parts =>
    simp only [compOp] at hc
    split at hc
    · rename_i z fs hz hu
      split at hc
      · rename_i hall
        cases hp : partsS P fs parts.toList with
        | none => simp [hp] at hc
        | some ps =>
          simp [hp] at hc; subst hc
          simp only [stepA] at hs
          cases hf : fillA (z.map .v) (ps.map fun p => (p.1, p.2.1, p.2.2.ev ts)) with
          | none => simp [hf] at hs
          | some cs => simp [hf] at hs; obtain ⟨rfl, rfl⟩ := hs; exact go_bldS t parts z fs ps cs hop hz hu hall hp hf hm ht
      · cases hc
    · rename_i z n e hz hu
      cases hn : szOf P e with
      | none => simp [hn] at hc
      | some k =>
        simp only [hn, Option.map_some, Option.some.injEq] at hc; subst hc
        simp only [stepA] at hs
        cases hf : fillA (z.map .v) ((parts.toList.map fun (i, x) => (i * k, k, compOpd x)).map fun p => (p.1, p.2.1, p.2.2.ev ts)) with
        | none => rw [hf] at hs; cases hs
        | some cs => rw [hf] at hs; simp only [Option.map_some, Option.some.injEq, Prod.mk.injEq] at hs; obtain ⟨rfl, rfl⟩ := hs; exact go_bldA t e n parts z k cs hop hz hu hn hf hm ht
    · cases hc
  | buildSlice t len parts =>
    simp only [compOp] at hc
    split at hc
    · rename_i e he
      split at hc
      · rename_i n z hn hz
        split at hc
        · rename_i hcond
          cases hc
          simp only [Bool.and_eq_true, bne_iff_ne, beq_iff_eq, decide_eq_true_eq] at hcond
          obtain ⟨⟨⟨h1, h2⟩, h3⟩, h4⟩ := hcond
          simp only [stepA] at hs
          split at hs
          · rename_i hall
            cases hs
            rw [List.map_map]
            refine go_bsl t e len n parts z hop (elemOf_under he) hn hz h1 h2 h3 h4 (fun x hx => ?_) hO hm ht
            simp only [List.all_map, List.all_eq_true, Function.comp, Bool.and_eq_true, beq_iff_eq] at hall
            obtain ⟨⟨g1, g2⟩, g3⟩ := hall x hx
            exact ⟨g1, g2, g3⟩
          · cases hs
        · cases hc
      · cases hc
    · cases hc
  | load t x =>
    simp only [compOp] at hc
    cases hk : kOf P t with
    | none => simp [hk] at hc
    | some k =>
      simp [hk] at hc; subst hc
      simp only [stepA] at hs
      split at hs
      · rename_i cs hcs
        cases hv : mk k.1 cs with
        | none => simp [hv] at hs
        | some v => simp [hv] at hs; obtain ⟨rfl, rfl⟩ := hs; exact go_ld t x k cs v hop hk hcs hv hm ht
      · cases hs
  | store t x y =>
    simp only [compOp] at hc
    cases hk : szOf P t with
    | none => simp [hk] at hc
    | some n =>
      simp [hk] at hc; subst hc
      simp only [stepA] at hs
      split at hs
      · rename_i hcond
        cases hp : putAt mem ((compOpd y).ev ts).cells ((compOpd x).ev ts) with
        | none => simp [hp] at hs
        | some m => simp [hp] at hs; obtain ⟨rfl, rfl⟩ := hs; exact go_st t x y n hop hk hcond.1 hcond.2 hp hm ht
      · cases hs
  | nilCheck x =>
    simp only [compOp] at hc; cases hc
    simp only [stepA] at hs
    split at hs
    · cases hs; exact go_chk x _ hop ‹_› (.inl ⟨_, _, _, rfl⟩) hm ht
    · cases hs; exact go_chk x _ hop ‹_› (.inr (.inl ⟨_, _, rfl⟩)) hm ht
    · cases hs; exact go_chk x _ hop ‹_› (.inr (.inr (.inl ⟨_, _, rfl⟩))) hm ht
    · cases hs; exact go_chk x _ hop ‹_› (.inr (.inr (.inr ⟨_, _, _, rfl⟩))) hm ht
    · cases hs
  | binOp op t x y yt =>
    simp only [compOp] at hc
    split at hc
    · rename_i hagg
      split at hc
      · split at hc
        · cases hc
        · rename_i hgd
          cases hk : flatK P 6 t with
          | none => simp [hk] at hc
          | some ks =>
            simp [hk] at hc; subst hc
            simp only [stepA] at hs
            split at hs
            · rename_i cs ds h1 h2
              cases he : eqCells ks cs ds with
              | none => simp [he] at hs
              | some r0 =>
                simp [he] at hs; obtain ⟨rfl, rfl⟩ := hs
                obtain ⟨l1, l2⟩ := eqCells_len ks cs ds r0 he
                have := go_eqs (O := O) false t x y yt ks cs ds r0 hop hk hagg (by simpa using hgd) h1 h2 l1 l2 he hm ht
                simpa using this
            · cases hs
      · split at hc
        · cases hc
        · rename_i hgd
          cases hk : flatK P 6 t with
          | none => simp [hk] at hc
          | some ks =>
            simp [hk] at hc; subst hc
            simp only [stepA] at hs
            split at hs
            · rename_i cs ds h1 h2
              cases he : eqCells ks cs ds with
              | none => simp [he] at hs
              | some r0 =>
                simp [he] at hs; obtain ⟨rfl, rfl⟩ := hs
                obtain ⟨l1, l2⟩ := eqCells_len ks cs ds r0 he
                have := go_eqs (O := O) true t x y yt ks cs ds r0 hop hk hagg (by simpa using hgd) h1 h2 l1 l2 he hm ht
                simpa using this
            · cases hs
      · cases hc
    · split at hc
      · rename_i q hq
        cases hc
        simp only [stepA] at hs
        cases hn : nilQ mem q.1 ((compOpd x).ev ts) with
        | none => simp [hn] at hs
        | some r0 => simp [hn] at hs; obtain ⟨rfl, rfl⟩ := hs; exact go_isn q.1 q.2 t x y yt op r0 hop hq hn hm ht
      split at hc
      · rename_i neg hq
        cases hc
        simp only [stepA] at hs
        cases hn : nilV ((compOpd x).ev ts) with
        | none => simp [hn] at hs
        | some r0 => simp [hn] at hs; obtain ⟨rfl, rfl⟩ := hs; exact go_isi neg t x y yt op r0 hop hq hn hm ht
      cases hc
      simp only [stepA] at hs
      split at hs
      · rename_i va vb h1 h2
        cases hr : binV (isBool P t) op va vb with
        | none => simp [hr] at hs
        | some r0 => simp [hr] at hs; obtain ⟨rfl, rfl⟩ := hs; exact go_bin op t x y yt va vb r0 hop h1 h2 hr hm ht
      · cases hs
  | unOp op t x =>
    simp only [compOp] at hc; cases hc
    simp only [stepA] at hs
    split at hs
    · rename_i va h1
      cases hr : unV op va with
      | none => simp [hr] at hs
      | some r0 => simp [hr] at hs; obtain ⟨rfl, rfl⟩ := hs; exact go_un op t x va r0 hop h1 hr hm ht
    · cases hs
  | convert s d x =>
    simp only [compOp] at hc
    split at hc
    · rename_i ks k h1 h2
      cases hc
      simp only [stepA] at hs
      split at hs
      · rename_i k0 n h3; cases hs; exact go_cvt s d x ks k n k0 hop h1 h2 h3 hm ht
      · cases hs
    · rename_i h1 h2
      cases hc
      simp only [stepA] at hs
      split at hs
      · rename_i y h3; cases hs; exact go_cvs s d x y hop h1 h2 h3 hm ht
      · cases hs
    · rename_i e h1 h2
      split at hc
      · rename_i hu8
        cases hc
        simp only [stepA] at hs
        split at hs
        · rename_i sz es h3
          split at hs
          · cases hb : bytesOf es with
            | none => simp [hb] at hs
            | some l => simp [hb] at hs; obtain ⟨rfl, rfl⟩ := hs; exact go_b2s s d e x sz es l hop h1 h2 (isU8_under hu8) h3 hb hm ht
          · cases hs
        · cases hs
      · cases hc
    · rename_i e h1 h2
      split at hc
      · rename_i hu8
        cases hc
        simp only [stepA] at hs
        split at hs
        · rename_i y h3; cases hs; exact go_s2b s d e x y hop h1 h2 (isU8_under hu8) h3 hO hm ht
        · cases hs
      · cases hc
    · cases hc
  | makeInterface t x =>
    simp only [compOp] at hc
    split at hc
    · cases hc
    · cases hc
    · rename_i h1 h2
      cases hc
      simp only [stepA] at hs
      cases hu : P.underlying t with
      | none => exact absurd hu h2
      | some d =>
        have hg := go_mki (P := P) (O := O) t x hop d hu (fun ms he => h1 ms (by rw [hu, he])) hm ht
        split at hs
        · cases hs
        · cases hs; exact hg
  | slice t x lo hi mx =>
    cases mx with
    | some m =>
      cases hi with
      | none => simp [compOp] at hc
      | some hi =>
        simp only [compOp] at hc
        split at hc
        · rename_i e hu
          cases hn : szOf P e with
          | none => simp [hn] at hc
          | some n =>
            simp [hn] at hc; subst hc
            simp only [stepA] at hs
            split at hs
            · rename_i sz es h3
              split at hs
              · rename_i l h m' h4 h5 h6
                split at hs
                · rename_i hcond; cases hs; exact go_sl3F t e x lo (some hi) m n sz es l h m' hop hu hn (by simp) h3 h4 h5 h6 hcond.1 hcond.2.1 hcond.2.2.1 hcond.2.2.2 hm ht
                · cases hs
              · cases hs
            · split at hs
              · rename_i sz es h3
                split at hs
                · rename_i l h m' h4 h5 h6
                  split at hs
                  · rename_i hcond
                    cases hs
                    exact go_sl3A t e x lo (some hi) m n sz es l h m' hop hu hn (by simp) h3 h4 h5 h6 hcond.1 hcond.2.1 hcond.2.2 (fun base cap hx => by
                      have hv := opd_ok ht x
                      rw [hx] at hv
                      exact cap_ge h3 hm hv rfl) hm ht
                  · cases hs
                · cases hs
              · cases hs
        · cases hc
    | none =>
      simp only [compOp] at hc
      split at hc
      · rename_i hu
        cases hc
        simp only [stepA] at hs
        split at hs
        · rename_i y h3
          split at hs
          · rename_i l h h4 h5
            split at hs
            · rename_i hcond; cases hs; exact go_slcS t x lo hi y l h hop hu h3 h4 h5 hcond.1 hcond.2 hm ht
            · cases hs
          · cases hs
        · cases hs
      · rename_i e hu
        cases hn : szOf P e with
        | none => simp [hn] at hc
        | some n =>
          simp [hn] at hc; subst hc
          simp only [stepA] at hs
          split at hs
          · rename_i sz es h3
            split at hs
            · rename_i l h h4 h5
              split at hs
              · rename_i hcond; cases hs; exact go_slc t e x lo hi n sz es l h hop hu hn h3 h4 h5 hcond.1 hcond.2.1 hcond.2.2 hm ht
              · cases hs
            · cases hs
          · rename_i id off k h3
            have h3' : (compOpd x).ev ts = .win id off k := by
              have h4 := h3
              cases hq : (compOpd x).ev ts with
              | win i o q => rw [hq] at h4; simpa [AV.frz] using h4
              | v y =>
                rw [hq] at h4
                unfold AV.frz at h4
                split at h4 <;> first | cases h4 | simp_all
              | osl i =>
                exfalso
                rw [hq] at h4
                unfold AV.frz at h4
                split at h4
                · cases h4
                · rename_i a0 hi0
                  subst h4
                  have hlt := (List.getElem?_eq_some_iff.1 hi0).1
                  obtain ⟨l, hl⟩ : ∃ l, B[i]? = some l := ⟨_, List.getElem?_eq_getElem (by rw [hm.len]; exact hlt)⟩
                  have hbr := hm.br i _ l hi0 hl
                  match l, hbr with
                  | .arr _ g _ _, hbr =>
                    have hbr' : ∃ (G : Nat → Prop) (y0 : Value), VR G w [] (.win id off k) y0 := ⟨_, _, hbr⟩
                    obtain ⟨G, y0, hb⟩ := hbr'
                    cases hb with | win h _ _ => simp at h
                · cases h4
              | _ => rw [hq] at h4; simp [AV.frz] at h4
            split at hs
            · rename_i tt sz es hid
              split at hs
              · rename_i l h h4 h5
                split at hs
                · rename_i hcond
                  obtain ⟨c1, c2, rfl⟩ := hcond
                  cases hs; exact go_slcW t e x lo hi sz id off k tt es l h hop hu hn h3' hid h4 h5 c1 c2 hm ht
                · cases hs
              · cases hs
            · cases hs
          · cases hs
      · cases hc
  | fieldAddr s x i =>
    simp only [compOp] at hc
    split at hc
    · rename_i fs hfs
      cases hf : fs[i]? with
      | none => simp [hf] at hc
      | some f =>
        simp only [hf, Option.bind_some] at hc
        split at hc
        · rename_i n hn
          cases hc
          simp only [stepA] at hs
          split at hs
          · rename_i id j k h1; cases hs; exact go_fad s x i fs f n _ hop (structOf_under hfs) hf hn (.inl ⟨id, j, k, h1, rfl⟩) hm ht
          · rename_i e k h1; cases hs; exact go_fad s x i fs f n _ hop (structOf_under hfs) hf hn (.inr ⟨e, k, h1, rfl⟩) hm ht
          · cases hs
        · cases hc
    · cases hc
  | field s x i =>
    simp only [compOp] at hc
    split at hc
    · rename_i fs hfs
      cases hf : fs[i]? with
      | none => simp [hf] at hc
      | some f =>
        cases hk : kOf P f.type with
        | none => simp [hf, hk] at hc
        | some k =>
          simp [hf, hk] at hc; subst hc
          simp only [stepA] at hs
          split at hs
          · rename_i cs h1
            split at hs
            · rename_i hle
              cases hv : mk k.1 ((cs.drop f.offset).take k.2) with
              | none => simp [hv] at hs
              | some v => simp [hv] at hs; obtain ⟨rfl, rfl⟩ := hs; exact go_fld s x i fs f k cs v hop (structOf_under hfs) hf hk h1 hle hv hm ht
            · cases hs
          · cases hs
    · cases hc
  | indexAddr t x i =>
    simp only [compOp] at hc
    split at hc
    · rename_i e hu
      cases hn : szOf P e with
      | none => simp [hn] at hc
      | some n =>
        simp [hn] at hc; subst hc
        simp only [stepA] at hs
        split at hs
        · rename_i sz es k h1 h2
          split at hs
          · rename_i hcond
            obtain ⟨h0, rfl⟩ := hcond
            cases he : es[k.toNat]? with
            | none => simp [he] at hs
            | some el => simp [he] at hs; obtain ⟨rfl, rfl⟩ := hs; exact go_iaxF t e x i sz es k el hop hu hn (.inl h1) h2 h0 he hm ht
          · cases hs
        · rename_i id k h1 h2
          split at hs
          · rename_i tt sz es h3
            split at hs
            · rename_i hcond
              obtain ⟨h0, h4, rfl⟩ := hcond
              cases hs
              exact go_iaxO t e x i tt sz id es k hop hu hn h1 h3 h2 h0 h4 hm ht
            · cases hs
          · rename_i sz es h3
            split at hs
            · rename_i hcond
              obtain ⟨h0, rfl⟩ := hcond
              cases he : es[k.toNat]? with
              | none => simp [he] at hs
              | some el => simp [he] at hs; obtain ⟨rfl, rfl⟩ := hs; exact go_iaxF t e x i sz es k el hop hu hn (.inr ⟨id, h1, h3⟩) h2 h0 he hm ht
            · cases hs
          · cases hs
        · cases hs
    · rename_i len e hu
      cases hn : szOf P e with
      | none => simp [hn] at hc
      | some n =>
        simp [hn] at hc; subst hc
        simp only [stepA] at hs
        split at hs
        · rename_i id j q k h1 h2
          split at hs
          · rename_i hcond; cases hs; exact go_iaa t e x i len n k _ hop hu hn (.inl ⟨id, j, q, h1, rfl⟩) h2 hcond.1 hcond.2 hm ht
          · cases hs
        · rename_i e' q k h1 h2
          split at hs
          · rename_i hcond; cases hs; exact go_iaa t e x i len n k _ hop hu hn (.inr ⟨e', q, h1, rfl⟩) h2 hcond.1 hcond.2 hm ht
          · cases hs
        · cases hs
    · cases hc
  | index t x i =>
    simp only [compOp] at hc
    split at hc
    · rename_i hu
      cases hc
      simp only [stepA] at hs
      split at hs
      · rename_i s k h1 h2
        split at hs
        · rename_i h0
          cases hb : s.data.toList[k.toNat]? with
          | none => simp only [hb, Option.map_none] at hs; cases hs
          | some b => simp only [hb, Option.map_some, Option.some.injEq, Prod.mk.injEq] at hs; obtain ⟨rfl, rfl⟩ := hs; exact go_ixs t x i s k b hop hu h1 h2 h0 hb hm ht
        · cases hs
      · cases hs
    · rename_i len e hu
      cases hk : kOf P e with
      | none => simp [hk] at hc
      | some kk =>
        simp [hk] at hc; subst hc
        simp only [stepA] at hs
        split at hs
        · rename_i cs k h1 h2
          split at hs
          · rename_i hcond
            cases hv : mk kk.1 ((cs.drop (k.toNat * kk.2)).take kk.2) with
            | none => simp [hv] at hs
            | some v => simp [hv] at hs; obtain ⟨rfl, rfl⟩ := hs; exact go_ixa t x i len e kk cs k v hop hu hk h1 h2 hcond.1 hcond.2.1 hcond.2.2 hv hm ht
          · cases hs
        · cases hs
    · cases hc
  | extract x k =>
    simp only [compOp] at hc; cases hc
    simp only [stepA] at hs
    split at hs
    · rename_i vs h1
      cases hv : vs[k]? with
      | none => simp [hv] at hs
      | some v => simp [hv] at hs; obtain ⟨rfl, rfl⟩ := hs; exact go_ext k x vs v hop h1 hv hm ht
    · cases hs
  | panic x =>
    simp only [compOp] at hc; cases hc
    simp only [stepA] at hs
    split at hs
    · rename_i t v h1; cases hs; exact go_pan x t v hop h1 hm ht
    · cases hs
  | makeFunc fn first caps =>
    cases fn with
    | func f =>
      simp only [compOp] at hc
      split at hc
      · rename_i he
        cases hc
        simp only [stepA] at hs; cases hs
        rw [List.map_map]
        exact go_mkf f first caps hop he hm ht
      · cases hc
    | _ => simp [compOp] at hc
  | call c =>
    obtain ⟨callee, args, ats⟩ := c
    have hargs := mapCR ht args.toList
    have hmap : (args.map a.eval) = (args.toList.map a.eval).toArray := by apply Array.toList_inj.1; simp
    cases callee with
    | invoke rc m => simp [compOp] at hc
    | value x =>
      have direct : ∀ f, x = .func f → ao = .call f (args.toList.map compOpd) → Goes P O F w B o a r mem' := by
        rintro f rfl rfl
        simp only [stepA, List.map_map] at hs
        refine go_call Γ hΓ f _ (args.toList.map a.eval) r ?_ hs hO hm hargs
        simp only [execOp, hop, resolve, Act.eval, Deferred.ofValue, invoke, Sem.run_bind, Sem.run_pure, Result.andThen_ok]
        have : (#[] ++ args.map a.eval ++ #[] : Array Value) = (args.toList.map a.eval).toArray := by rw [← hmap]; simp
        rw [← this]
      have indirect : ao = .calv (compOpd x) (args.toList.map compOpd) → Goes P O F w B o a r mem' := by
        rintro rfl
        have hv := opd_ok ht x
        simp only [stepA, List.map_map] at hs
        split at hs
        · rename_i g hx
          rw [hx] at hv
          refine go_call Γ hΓ g _ (args.toList.map a.eval) r ?_ hs hO hm hargs
          simp only [execOp, hop, resolve, hv.of_v, Deferred.ofValue, invoke, Sem.run_bind, Sem.run_pure, Result.andThen_ok]
          have : (#[] ++ args.map a.eval ++ #[] : Array Value) = (args.toList.map a.eval).toArray := by rw [← hmap]; simp
          rw [← this]
        · rename_i g caps hx
          rw [hx] at hv
          obtain ⟨us, e, hcr⟩ := hv.of_fn
          refine go_call Γ hΓ g _ (args.toList.map a.eval ++ us) r ?_ hs hO hm (hargs.append hcr)
          simp only [execOp, hop, resolve, e, Deferred.ofValue, invoke, Sem.run_bind, Sem.run_pure, Result.andThen_ok]
          have : (#[] ++ args.map a.eval ++ us.toArray : Array Value) = (args.toList.map a.eval ++ us).toArray := by rw [hmap]; simp
          rw [← this]
        · cases hs
      cases x with
      | func f => simp only [compOp] at hc; cases hc; exact direct f rfl rfl
      | tmp t => simp only [compOp] at hc; cases hc; exact indirect rfl
      | const v => simp only [compOp] at hc; cases hc; exact indirect rfl
      | global g => simp only [compOp] at hc; cases hc; exact indirect rfl
    | builtin b =>
      cases b with
      | len =>
        simp only [compOp] at hc
        split at hc
        · rename_i t x h0 ha
          split at hc
          · rename_i hu
            cases hc
            simp only [stepA] at hs
            split at hs
            · rename_i s h1; cases hs; exact go_len (O := O) (mem := mem) args x t ats s.size hop h0 ha (.inl ⟨hu, s, h1, rfl⟩) hm ht
            · cases hs
          · rename_i e hu
            cases hc
            simp only [stepA] at hs
            cases he : elemsW mem ((compOpd x).ev ts) with
            | none => simp [he] at hs
            | some p => simp [he] at hs; obtain ⟨rfl, rfl⟩ := hs; exact go_lenW args x t e ats p.1 p.2 hop h0 ha hu he hm ht
          · rename_i n e hu
            cases hc
            simp only [stepA] at hs; cases hs
            exact go_lenA args x t e ats n hop h0 ha hu hm
          · cases hc
        · cases hc
      | cap =>
        simp only [compOp] at hc
        split at hc
        · rename_i t x h0 ha
          cases he : elemOf? P t with
          | none => simp [he] at hc
          | some e =>
            simp [he] at hc; subst hc
            simp only [stepA] at hs
            split at hs
            · rename_i id off n hx
              split at hs
              · rename_i tt sz es hid; cases hs; exact go_cap args x ats t e id off n tt sz es hop h0 ha (elemOf_under he) hx hid hm ht
              · cases hs
            · cases hs
        · cases hc
      | copy =>
        simp only [compOp] at hc
        unfold compCpy at hc
        split at hc
        · rename_i d s t u hl1 hl2
          have ha1 : args = #[d, s] := by apply Array.toList_inj.1; simpa using hl1
          have ha2 : ats = #[t, u] := by apply Array.toList_inj.1; simpa using hl2
          subst ha1; subst ha2
          split at hc
          · rename_i e e' he he'
            cases hn : szOf P e with
            | none => simp [hn] at hc
            | some n =>
              simp [hn] at hc; subst hc
              simp only [stepA] at hs
              split at hs
              · rename_i id off k hd
                split at hs
                · rename_i tt sz1 es sz2 es2 hid hsrc
                  split at hs
                  · rename_i hcond
                    obtain ⟨rfl, c2, c3, c4⟩ := hcond
                    cases hs
                    exact go_cpy d s t u e e' sz1 id off k tt sz2 es es2 hop (elemOf_under he) hn hd hid hsrc c2 c3 c4 hm ht
                  · cases hs
                · cases hs
              · cases hs
          · cases hc
        · cases hc
      | clear =>
        simp only [compOp] at hc
        unfold compClr at hc
        split at hc
        · rename_i x t hl1 hl2
          have ha1 : args = #[x] := by apply Array.toList_inj.1; simpa using hl1
          have ha2 : ats = #[t] := by apply Array.toList_inj.1; simpa using hl2
          subst ha1; subst ha2
          split at hc
          · rename_i e he
            cases hz : zeroOf P e with
            | none => simp [hz] at hc
            | some z =>
              simp only [hz, Option.bind_some] at hc
              split at hc
              · rename_i hz1
                cases hc
                simp only [stepA] at hs
                split at hs
                · rename_i id off n hx
                  split at hs
                  · rename_i tt sz es hid
                    split at hs
                    · rename_i hcond
                      cases hs
                      exact go_clr x t e z id off n tt sz es hop (elemOf_under he) hz hx hid hcond.1 (List.all_eq_true.1 hz1) hcond.2 hm ht
                    · cases hs
                  · cases hs
                · cases hs
              · cases hc
          · cases hc
        · cases hc
      | append =>
        simp only [compOp] at hc
        unfold compApp at hc
        split at hc
        · rename_i s x t u hl1 hl2
          have ha1 : args = #[s, x] := by apply Array.toList_inj.1; simpa using hl1
          have ha2 : ats = #[t, u] := by apply Array.toList_inj.1; simpa using hl2
          subst ha1; subst ha2
          split at hc
          · rename_i e he
            have hu0 := elemOf_under he
            split at hc
            · rename_i i hi
              split at hc
              · rename_i z hz
                split at hc
                · rename_i hcond
                  simp only [Bool.and_eq_true, beq_iff_eq, bne_iff_ne] at hcond
                  obtain ⟨hzs, hsz⟩ := hcond
                  split at hc
                  · rename_i htu
                    have htu' : t = u := by simpa using htu
                    subst htu'
                    cases hc
                    simp only [stepA] at hs
                    have hvx := opd_ok ht x
                    split at hs
                    · rename_i id sz2 es2 h1 h2
                      split at hs
                      · rename_i t1 sz1 es hid
                        split at hs
                        · rename_i hcd
                          obtain ⟨rfl, rfl, hsz2, _, hb1, hb2, hsh⟩ := hcd
                          cases hs
                          obtain ⟨news, q1, q2, q3, q4, q5, q6⟩ := src_slice (P := P) h2 hm hvx hsz2 hsh
                          exact go_appG s x t t t1 i z (some id) es es2 (.slice t1) news es2.length hop hu0 hi hz hzs hsz hu0 (.inr ⟨_, rfl⟩) (.inl ⟨id, rfl, h1, hid⟩) q1 q2 q3 q4 rfl q5 q6 hb1 hb2 hO hm ht
                        · cases hs
                      · cases hs
                    · rename_i sz2 es2 h1 h2
                      split at hs
                      · rename_i hcd
                        obtain ⟨hsz2, hb1, hb2, hsh⟩ := hcd
                        cases hs
                        obtain ⟨news, q1, q2, q3, q4, q5, q6⟩ := src_slice (P := P) h2 hm hvx hsz2 hsh
                        have := go_appG (O := O) s x t t e i z none [] es2 (.slice e) news es2.length hop hu0 hi hz hzs hsz hu0 (.inr ⟨_, rfl⟩) (.inr ⟨rfl, h1, rfl⟩) q1 q2 q3 q4 rfl q5 q6 (by simpa using hb1) (by simpa using hb2) hO hm ht
                        simpa using this
                      · cases hs
                    · rename_i id off n h1
                      split at hs
                      · rename_i t1 sz1 es sz2 es2 hid h2
                        split at hs
                        · rename_i hcd
                          obtain ⟨rfl, rfl, c1, c2, c3⟩ := hcd
                          cases hs
                          exact go_appW s x t t t1 t1 i id off n t1 sz2 es es2 hop hu0 hi hu0 h1 hid h2 c1 c2 c3 hm ht
                        · cases hs
                      · cases hs
                    · cases hs
                  · split at hc
                    · rename_i hcd2
                      simp only [Bool.and_eq_true] at hcd2
                      obtain ⟨hint, hz1⟩ := hcd2
                      cases hc
                      simp only [stepA] at hs
                      split at hs
                      · rename_i id off n kk h1 h2
                        split at hs
                        · rename_i t1 sz1 es hid
                          split at hs
                          · rename_i hcd
                            obtain ⟨rfl, rfl, c1, c2, c3, c4, c5, c6⟩ := hcd
                            cases hs
                            have huint : ∃ ki, P.underlying u = some (.int ki) := by
                              unfold isInt at hint
                              split at hint
                              · rename_i ki hki; exact ⟨ki, hki⟩
                              · cases hint
                            obtain ⟨ki, huint⟩ := huint
                            exact go_ap0 s x t u t1 ki i z id off n kk es hop hu0 hi hz hzs hsz huint (List.all_eq_true.1 hz1) h1 h2 hid c1 c2 c3 c4 c5 c6 hO hm ht
                          · cases hs
                        · cases hs
                      · cases hs
                    split at hc
                    · rename_i hcd2
                      simp only [Bool.and_eq_true, beq_iff_eq] at hcd2
                      obtain ⟨⟨⟨hstr, hz0⟩, hs1⟩, hby⟩ := hcd2
                      cases hc
                      simp only [stepA] at hs
                      have hvx := opd_ok ht x
                      split at hs
                      · rename_i id y h1 h2
                        split at hs
                        · rename_i t1 sz1 es hid
                          split at hs
                          · rename_i hcd
                            obtain ⟨rfl, rfl, hb1⟩ := hcd
                            cases hs
                            rw [h2] at hvx
                            have hvx' := hvx.of_v
                            obtain ⟨q1, q2, q3, q4⟩ := str_src (P := P) (w := w) y
                            have hustr : P.underlying u = some .string := by
                              unfold isStr at hstr
                              split at hstr
                              · assumption
                              · cases hstr
                            have hlen : (y.data.toList.map fun b => AV.v (.int .u8 b.toNat)).length = y.size := by simp
                            have := go_appG (O := O) s x t u t1 i z (some id) es (y.data.toList.map fun b => AV.v (.int .u8 b.toNat)) .string (y.data.toList.map fun b => Value.int .u8 b.toNat) y.size hop hu0 hi hz hzs hsz hustr (.inl rfl)
                              (.inl ⟨id, rfl, h1, by rw [hs1]; exact hid⟩) (by rw [hvx']; exact q1) (by rw [hvx', hs1]; exact q2) (by rw [hs1]; exact q3) q4 hlen.symm (bytes_av _) (by rw [hs1]; exact bytes_av_len _) (by rw [hlen, hby]; omega) (by rw [hlen]; exact hb1) hO hm ht
                            rw [hs1] at this
                            exact this
                          · cases hs
                        · cases hs
                      · cases hs
                    · cases hc
                · cases hc
              · cases hc
            · cases hc
          · cases hc
        · cases hc
      | min =>
        simp only [compOp] at hc; cases hc
        simp only [stepA, List.map_map] at hs
        split at hs
        · rename_i y rr hx
          cases hv : minI y rr with
          | none => simp [hv] at hs
          | some v => simp [hv] at hs; obtain ⟨rfl, rfl⟩ := hs; exact go_mnn args ats y rr v hop hx hv hm ht
        · cases hs
      | max =>
        simp only [compOp] at hc; cases hc
        simp only [stepA, List.map_map] at hs
        split at hs
        · rename_i y rr hx
          cases hv : maxI y rr with
          | none => simp [hv] at hs
          | some v => simp [hv] at hs; obtain ⟨rfl, rfl⟩ := hs; exact go_mxx args ats y rr v hop hx hv hm ht
        · cases hs
      | _ => simp [compOp] at hc
  | _ => simp [compOp] at hc

end
end Go.Proofs.YtjmgnodeohmboaaDoor.Am
