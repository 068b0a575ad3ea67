/-
  THE FUNCTIONS' ABSTRACT CODE, as Lean's own reduction of compCode printed it, with notes (genac.py); each is held against the translation by the kernel.
-/
import Derived.Test.YtifchnkhnphibaaProg
import Derived.Test.YtifchnkhnphibaaAmF
namespace Go.Proofs.Ytifchnkhnphibaa.Am
set_option linter.unusedSimpArgs false
set_option linter.unusedVariables false
open Go Go.Proofs
set_option maxRecDepth 100000

theorem mix_ok : Try.prog.follows .mixedOrders = true := by kernel_rfl

def bytes_d46a035e : ByteArray := ⟨#[0, 1, 2, 2, 3, 3, 3, 3, 4, 4, 4, 4, 4, 4, 4, 4, 5, 5, 5, 5, 5, 5, 5, 5, 5, 5, 5, 5, 5, 5, 5, 5, 6, 6, 6, 6, 6, 6, 6, 6, 6, 6, 6, 6, 6, 6, 6, 6, 6, 6, 6, 6, 6, 6, 6, 6, 6, 6, 6, 6, 6, 6, 6, 6, 7, 7, 7, 7, 7, 7, 7, 7, 7, 7, 7, 7, 7, 7, 7, 7, 7, 7, 7, 7, 7, 7, 7, 7, 7, 7, 7, 7, 7, 7, 7, 7, 7, 7, 7, 7, 7, 7, 7, 7, 7, 7, 7, 7, 7, 7, 7, 7, 7, 7, 7, 7, 7, 7, 7, 7, 7, 7, 7, 7, 7, 7, 7, 7, 8, 8, 8, 8, 8, 8, 8, 8, 8, 8, 8, 8, 8, 8, 8, 8, 8, 8, 8, 8, 8, 8, 8, 8, 8, 8, 8, 8, 8, 8, 8, 8, 8, 8, 8, 8, 8, 8, 8, 8, 8, 8, 8, 8, 8, 8, 8, 8, 8, 8, 8, 8, 8, 8, 8, 8, 8, 8, 8, 8, 8, 8, 8, 8, 8, 8, 8, 8, 8, 8, 8, 8, 8, 8, 8, 8, 8, 8, 8, 8, 8, 8, 8, 8, 8, 8, 8, 8, 8, 8, 8, 8, 8, 8, 8, 8, 8, 8, 8, 8, 8, 8, 8, 8, 8, 8, 8, 8, 8, 8, 8, 8, 8, 8, 8, 8, 8, 8, 8, 8, 8, 8, 8, 8, 8, 8, 8, 8]⟩
/-- chantry/pack.Decode, part c0 -/
def ac0_26 : ACode :=
 (.region false [] [⟨some 2, .alloc [.slice none 0 0], none, []⟩, ⟨some 3, .alloc [.int .i64 0], none, []⟩])
theorem ac0_26_ok : compCode Try.prog (Am.dfr0 (Try.f26.body.getD .skip)) = some ac0_26.plain := by kernel_rfl
theorem ac0_26_fine : Fine ⟨Try.f26.ntmps, []⟩ ac0_26 := ⟨by kernel_rfl, by kernel_rfl⟩
/-- chantry/pack.Decode, part c2 -/
def ac_26 : ACode :=
 (.seq
  (.seq
   (.region false [] [⟨some 7, .mov (.t 0), none, []⟩, ⟨some 8, .len false (.t 7), none, [7]⟩, ⟨some 9, .bin false .gtr (.t 8) (.c (.int .i64 8000)), none, [8]⟩])
  (.cond (.t 9)
    (.drop [9]
     (.region false [] [⟨some 10, .bld [] [], none, []⟩, ⟨some 11, .mki 76 (.t 10), none, [10]⟩, ⟨none, .pan (.t 11), none, [11]⟩]))
    (.drop [9]
     .skip)))
 (.seq
  (.region false [] [⟨some 12, .mov (.t 0), none, [0]⟩, ⟨some 13, .bld [.slice none 0 0] [(0, 1, .t 12)], none, [12]⟩, ⟨some 14, .box (.t 13), none, [13]⟩, ⟨some 4, .mov (.t 14), none, [14]⟩])
 (.seq
  (.region false [] [⟨some 15, .mov (.t 4), none, []⟩, ⟨some 16, .call 37 [.t 15, .c (.int .i64 1)], none, [15]⟩, ⟨some 17, .iax 1 (.t 16) (.c (.int .i64 0)), none, [16]⟩, ⟨some 18, .ld false 1 (.t 17), none, [17]⟩, ⟨some 19, .cvt .i64 (.t 18), none, [18]⟩, ⟨some 5, .mov (.t 19), none, [19]⟩])
 (.seq
  (.seq
   (.region false [] [⟨some 20, .mov (.t 5), none, []⟩, ⟨some 21, .mov (.c (.int .i64 0)), none, []⟩])
  (.block 0
   (.loop [2, 3, 4, 5, 20, 21]
    (.seq
     (.region false [] [⟨some 22, .bin false .lss (.t 21) (.t 20), none, []⟩])
    (.seq
     (.cond (.t 22)
       (.drop [22]
        .skip)
       (.drop [20, 21, 22]
        (.exit 0)))
    (.seq
     (.block 1
      (.draws (.tak 1 ⟨some 24, .mov (.t 4), none, []⟩ (.alt 0 ⟨some 23, .ld false 1 (.t 2), none, []⟩ (.alt 2 ⟨some 25, .call 38 [.t 24], none, []⟩ (.alt 3 ⟨some 26, .bsl 50 4 [.t 25], none, []⟩ (.alt 4 ⟨some 27, .app 50 4 40 (.t 23) (.t 26), none, []⟩ (.alt 5 ⟨none, .st 1 (.t 2) (.t 27), none, []⟩ .done .stop) .stop) .stop) .stop) (.alt 2 ⟨some 25, .call 38 [.t 24], none, []⟩ (.alt 0 ⟨some 23, .ld false 1 (.t 2), none, []⟩ (.alt 3 ⟨some 26, .bsl 50 4 [.t 25], none, []⟩ (.alt 4 ⟨some 27, .app 50 4 40 (.t 23) (.t 26), none, []⟩ (.alt 5 ⟨none, .st 1 (.t 2) (.t 27), none, []⟩ .done .stop) .stop) .stop) (.alt 3 ⟨some 26, .bsl 50 4 [.t 25], none, []⟩ (.alt 0 ⟨some 23, .ld false 1 (.t 2), none, []⟩ (.alt 4 ⟨some 27, .app 50 4 40 (.t 23) (.t 26), none, []⟩ (.alt 5 ⟨none, .st 1 (.t 2) (.t 27), none, []⟩ .done .stop) .stop) .stop) .stop)) .stop))) [[], [], [1], [2], [0, 3, 2], [4, 4, 0, 1, 2, 3, 4]] [⟨some 23, .ld false 1 (.t 2), none, []⟩, ⟨some 24, .mov (.t 4), none, []⟩, ⟨some 25, .call 38 [.t 24], none, []⟩, ⟨some 26, .bsl 50 4 [.t 25], none, []⟩, ⟨some 27, .app 50 4 40 (.t 23) (.t 26), none, []⟩, ⟨none, .st 1 (.t 2) (.t 27), none, []⟩]))
    (.region false [] [⟨some 28, .bin false .add (.t 21) (.c (.int .i64 1)), none, [21]⟩, ⟨some 21, .mov (.t 28), none, [28]⟩])))))))
 (.seq
  (.seq
   (.region false [] [⟨some 29, .mov (.t 4), none, [4]⟩, ⟨some 30, .chk (.t 29), none, [29]⟩, ⟨some 31, .fad 0 (.t 30), none, [30]⟩, ⟨some 32, .ld false 1 (.t 31), none, [31]⟩, ⟨some 33, .len false (.t 32), none, [32]⟩, ⟨some 34, .bin false .gtr (.t 33) (.c (.int .i64 0)), none, [33]⟩, ⟨some 35, .mov (.t 34), none, [34]⟩, ⟨some 36, .mov (.t 5), some (35, false), [5]⟩, ⟨some 37, .bin false .gtr (.t 36) (.c (.int .i64 200)), some (35, false), [36]⟩, ⟨some 38, .pick (.t 35) (.c (.bool true)) (.t 37), none, [35, 37]⟩])
  (.cond (.t 38)
    (.drop [38]
     (.region false [] [⟨some 39, .bld [] [], none, []⟩, ⟨some 40, .mki 76 (.t 39), none, [39]⟩, ⟨none, .pan (.t 40), none, [40]⟩]))
    (.drop [38]
     .skip)))
 (.seq
  (.region false [] [⟨some 41, .ld false 1 (.t 2), none, []⟩, ⟨none, .st 1 (.t 2) (.t 41), none, [41]⟩, ⟨none, .st 1 (.t 3) (.c (.int .i64 0)), none, []⟩])
 .ret))))))
theorem ac_26_ok : compCode Try.prog (Am.dfr2 (Try.f26.body.getD .skip)) = some ac_26.plain := by kernel_rfl
theorem ac_26_fine : Fine ⟨Try.f26.ntmps, [2, 3]⟩ ac_26 := ⟨by kernel_rfl, by kernel_rfl⟩
def rs_26 : List ARes := [.cell 2 false 1, .cell 3 false 1]
theorem rs_26_ok : Try.f26.results.toList.mapM (compRes Try.prog) = some rs_26 := by kernel_rfl

/-- chantry/past.Below -/
def ac_10 : ACode :=
 (.seq
  (.region false [] [⟨some 2, .box (.t 0), none, [0]⟩, ⟨some 3, .box (.t 1), none, [1]⟩, ⟨some 4, .mov (.c (.bool false)), none, []⟩])
 (.seal_ 3
  (.seal_ 2
   (.seq
    (.draws (.tak 0 ⟨some 5, .ld true 16 (.t 2), none, []⟩ (.tak 1 ⟨some 6, .ld true 16 (.t 3), none, []⟩ (.tak 3 ⟨some 8, .ld true 16 (.t 3), none, []⟩ (.alt 2 ⟨some 7, .call 12 [.t 5, .t 6], none, []⟩ (.tak 4 ⟨some 9, .eqs false [.i, .i, .i, .i, .i, .i, .i, .i, .i, .i, .i, .i, .i, .i, .i, .i] (.t 7) (.t 8), none, []⟩ (.tak 5 ⟨some 4, .mov (.t 9), none, []⟩ .done)) .stop)))) [[], [], [0, 1], [], [2, 3], [4, 2, 0, 1, 2, 3, 4]] [⟨some 5, .ld true 16 (.t 2), none, []⟩, ⟨some 6, .ld true 16 (.t 3), none, []⟩, ⟨some 7, .call 12 [.t 5, .t 6], none, []⟩, ⟨some 8, .ld true 16 (.t 3), none, []⟩, ⟨some 9, .eqs false [.i, .i, .i, .i, .i, .i, .i, .i, .i, .i, .i, .i, .i, .i, .i, .i] (.t 7) (.t 8), none, []⟩, ⟨some 4, .mov (.t 9), none, []⟩])
   (.drop [2, 3, 5, 6, 7, 8, 9]
    .ret)))))
def rs_10 : List ARes := [.tmp 4]
theorem ac_10_ok : compCode Try.prog (Try.f10.body.getD .skip) = some ac_10.plain := by kernel_rfl
theorem ac_10_chk : ac_10.chk ⟨Try.f10.ntmps, []⟩ = true := by kernel_rfl
theorem ac_10_pairs : ac_10.pairs.map Prod.fst = ac_10.pairs.map Prod.snd := by kernel_rfl
theorem rs_10_ok : Try.f10.results.toList.mapM (compRes Try.prog) = some rs_10 := by kernel_rfl
theorem ok_10 {Γ : Env} (hΓ : EnvOk Try.prog Γ) (sp : Spec) (h : ∀ args mem r mem1, sp args mem = some (r, mem1) → wpA Γ mem.length ac_10 (finQ mem.length rs_10 r mem1) (entry 0 args) mem) : CallOk Try.prog 10 sp :=
  ok_of_body (fn := Try.f10) (c := Try.f10.body.getD .skip) hΓ mix_ok (by kernel_rfl) (by kernel_rfl) ac_10_ok ⟨ac_10_chk, ac_10_pairs⟩ rs_10_ok (by kernel_rfl) sp h

/-- chantry/chantryref09.Below -/
def ac_11 : ACode :=
 (.seq
  (.region false [] [⟨some 2, .box (.t 0), none, [0]⟩, ⟨some 3, .box (.t 1), none, [1]⟩, ⟨some 4, .mov (.c (.bool false)), none, []⟩])
 (.seal_ 3
  (.seal_ 2
   (.seq
    (.seq
     (.region false [] [⟨some 5, .mov (.c (.int .i64 0)), none, []⟩])
    (.block 0
     (.loop [2, 3, 5]
      (.seq
       (.seq
        (.region false [] [⟨some 6, .mov (.t 5), none, []⟩, ⟨some 7, .bin false .lss (.t 6) (.c (.int .i64 16)), none, [6]⟩])
       (.cond (.t 7)
         (.drop [7]
          .skip)
         (.drop [2, 3, 5, 7]
          (.exit 0))))
      (.seq
       (.block 1
        (.seq
         (.draws (.tak 0 ⟨some 10, .mov (.t 5), none, []⟩ (.tak 1 ⟨some 11, .iaa 16 1 (.t 2) (.t 10), none, []⟩ (.tak 2 ⟨some 12, .ld false 1 (.t 11), none, []⟩ (.tak 3 ⟨some 13, .mov (.t 5), none, []⟩ (.tak 4 ⟨some 14, .iaa 16 1 (.t 3) (.t 13), none, []⟩ (.tak 5 ⟨some 15, .ld false 1 (.t 14), none, []⟩ (.tak 6 ⟨some 16, .bin false .gtr (.t 12) (.t 15), none, []⟩ .done))))))) [[], [0], [1], [], [3], [4], [2, 5]] [⟨some 10, .mov (.t 5), none, []⟩, ⟨some 11, .iaa 16 1 (.t 2) (.t 10), none, []⟩, ⟨some 12, .ld false 1 (.t 11), none, []⟩, ⟨some 13, .mov (.t 5), none, []⟩, ⟨some 14, .iaa 16 1 (.t 3) (.t 13), none, []⟩, ⟨some 15, .ld false 1 (.t 14), none, []⟩, ⟨some 16, .bin false .gtr (.t 12) (.t 15), none, []⟩])
        (.drop [10, 11, 12, 13, 14, 15]
         (.cond (.t 16)
           (.drop [2, 3, 5, 16]
            (.seq
             (.region false [] [⟨some 4, .mov (.c (.bool false)), none, []⟩])
            .ret))
           (.drop [16]
            .skip)))))
      (.region false [] [⟨some 8, .mov (.t 5), none, [5]⟩, ⟨some 9, .bin false .add (.t 8) (.c (.int .i64 1)), none, [8]⟩, ⟨some 5, .mov (.t 9), none, [9]⟩]))))))
   (.seq
    (.region false [] [⟨some 4, .mov (.c (.bool true)), none, []⟩])
   .ret)))))
def rs_11 : List ARes := [.tmp 4]
theorem ac_11_ok : compCode Try.prog (Try.f11.body.getD .skip) = some ac_11.plain := by kernel_rfl
theorem ac_11_chk : ac_11.chk ⟨Try.f11.ntmps, []⟩ = true := by kernel_rfl
theorem ac_11_pairs : ac_11.pairs.map Prod.fst = ac_11.pairs.map Prod.snd := by kernel_rfl
theorem rs_11_ok : Try.f11.results.toList.mapM (compRes Try.prog) = some rs_11 := by kernel_rfl
theorem ok_11 {Γ : Env} (hΓ : EnvOk Try.prog Γ) (sp : Spec) (h : ∀ args mem r mem1, sp args mem = some (r, mem1) → wpA Γ mem.length ac_11 (finQ mem.length rs_11 r mem1) (entry 0 args) mem) : CallOk Try.prog 11 sp :=
  ok_of_body (fn := Try.f11) (c := Try.f11.body.getD .skip) hΓ mix_ok (by kernel_rfl) (by kernel_rfl) ac_11_ok ⟨ac_11_chk, ac_11_pairs⟩ rs_11_ok (by kernel_rfl) sp h

/-- chantry/past.Join -/
def ac_12 : ACode :=
 (.seq
  (.region false [] [⟨some 2, .box (.t 0), none, [0]⟩, ⟨some 3, .box (.t 1), none, [1]⟩, ⟨some 4, .alloc [.int .u16 0, .int .u16 0, .int .u16 0, .int .u16 0, .int .u16 0, .int .u16 0, .int .u16 0, .int .u16 0, .int .u16 0, .int .u16 0, .int .u16 0, .int .u16 0, .int .u16 0, .int .u16 0, .int .u16 0, .int .u16 0], none, []⟩])
 (.seal_ 3
  (.seq
   (.seq
    (.region false [] [⟨some 7, .ld true 16 (.t 3), none, [3]⟩, ⟨some 8, .mov (.c (.int .i64 0)), none, []⟩])
   (.block 0
    (.loop [2, 4, 7, 8]
     (.seq
      (.region false [] [⟨some 9, .bin false .lss (.t 8) (.c (.int .i64 16)), none, []⟩])
     (.seq
      (.cond (.t 9)
        (.drop [9]
         .skip)
        (.drop [7, 8, 9]
         (.exit 0)))
     (.seq
      (.block 1
       (.seq
        (.region false [] [⟨some 10, .mov (.t 8), none, []⟩, ⟨some 11, .ixa 16 1 false (.t 7) (.t 8), none, []⟩, ⟨some 5, .mov (.t 10), none, [10]⟩, ⟨some 6, .mov (.t 11), none, [11]⟩])
       (.region false [] [⟨some 12, .mov (.t 5), none, []⟩, ⟨some 13, .mov (.t 5), none, [5]⟩, ⟨some 14, .iaa 16 1 (.t 2) (.t 13), none, [13]⟩, ⟨some 15, .ld false 1 (.t 14), none, [14]⟩, ⟨some 16, .mov (.t 6), none, [6]⟩, ⟨some 17, .mxx [.t 15, .t 16], none, [15, 16]⟩, ⟨some 18, .iaa 16 1 (.t 2) (.t 12), none, [12]⟩, ⟨none, .st 1 (.t 18) (.t 17), none, [17, 18]⟩])))
     (.region false [] [⟨some 19, .bin false .add (.t 8) (.c (.int .i64 1)), none, [8]⟩, ⟨some 8, .mov (.t 19), none, [19]⟩])))))))
  (.seq
   (.region false [] [⟨some 20, .ld true 16 (.t 2), none, [2]⟩, ⟨none, .st 16 (.t 4) (.t 20), none, [20]⟩])
  .ret))))
def rs_12 : List ARes := [.cell 4 true 16]
theorem ac_12_ok : compCode Try.prog (Try.f12.body.getD .skip) = some ac_12.plain := by kernel_rfl
theorem ac_12_chk : ac_12.chk ⟨Try.f12.ntmps, []⟩ = true := by kernel_rfl
theorem ac_12_pairs : ac_12.pairs.map Prod.fst = ac_12.pairs.map Prod.snd := by kernel_rfl
theorem rs_12_ok : Try.f12.results.toList.mapM (compRes Try.prog) = some rs_12 := by kernel_rfl
theorem ok_12 {Γ : Env} (hΓ : EnvOk Try.prog Γ) (sp : Spec) (h : ∀ args mem r mem1, sp args mem = some (r, mem1) → wpA Γ mem.length ac_12 (finQ mem.length rs_12 r mem1) (entry 0 args) mem) : CallOk Try.prog 12 sp :=
  ok_of_body (fn := Try.f12) (c := Try.f12.body.getD .skip) hΓ mix_ok (by kernel_rfl) (by kernel_rfl) ac_12_ok ⟨ac_12_chk, ac_12_pairs⟩ rs_12_ok (by kernel_rfl) sp h

/-- chantry/chantryref09.Join -/
def ac_13 : ACode :=
 (.seq
  (.region false [] [⟨some 2, .box (.t 0), none, [0]⟩, ⟨some 3, .box (.t 1), none, [1]⟩, ⟨some 4, .alloc [.int .u16 0, .int .u16 0, .int .u16 0, .int .u16 0, .int .u16 0, .int .u16 0, .int .u16 0, .int .u16 0, .int .u16 0, .int .u16 0, .int .u16 0, .int .u16 0, .int .u16 0, .int .u16 0, .int .u16 0, .int .u16 0], none, []⟩])
 (.seal_ 3
  (.seq
   (.seq
    (.region false [] [⟨some 5, .mov (.c (.int .i64 0)), none, []⟩])
   (.block 0
    (.loop [2, 3, 4, 5]
     (.seq
      (.seq
       (.region false [] [⟨some 6, .mov (.t 5), none, []⟩, ⟨some 7, .bin false .lss (.t 6) (.c (.int .i64 16)), none, [6]⟩])
      (.cond (.t 7)
        (.drop [7]
         .skip)
        (.drop [3, 5, 7]
         (.exit 0))))
     (.seq
      (.block 1
       (.draws (.tak 0 ⟨some 10, .mov (.t 5), none, []⟩ (.tak 1 ⟨some 11, .mov (.t 5), none, []⟩ (.tak 2 ⟨some 12, .iaa 16 1 (.t 2) (.t 11), none, []⟩ (.tak 4 ⟨some 14, .mov (.t 5), none, []⟩ (.tak 5 ⟨some 15, .iaa 16 1 (.t 3) (.t 14), none, []⟩ (.tak 6 ⟨some 16, .ld false 1 (.t 15), none, []⟩ (.alt 3 ⟨some 13, .ld false 1 (.t 12), none, []⟩ (.tak 7 ⟨some 17, .mxx [.t 13, .t 16], none, []⟩ (.tak 8 ⟨some 18, .iaa 16 1 (.t 2) (.t 10), none, []⟩ (.alt 9 ⟨none, .st 1 (.t 18) (.t 17), none, []⟩ .done .stop))) .stop))))))) [[], [], [1], [2], [], [4], [5], [3, 6], [0, 0, 1, 2, 3, 4, 5, 6, 7], [8, 7, 0, 1, 2, 3, 4, 5, 6, 7]] [⟨some 10, .mov (.t 5), none, []⟩, ⟨some 11, .mov (.t 5), none, []⟩, ⟨some 12, .iaa 16 1 (.t 2) (.t 11), none, []⟩, ⟨some 13, .ld false 1 (.t 12), none, []⟩, ⟨some 14, .mov (.t 5), none, []⟩, ⟨some 15, .iaa 16 1 (.t 3) (.t 14), none, []⟩, ⟨some 16, .ld false 1 (.t 15), none, []⟩, ⟨some 17, .mxx [.t 13, .t 16], none, []⟩, ⟨some 18, .iaa 16 1 (.t 2) (.t 10), none, []⟩, ⟨none, .st 1 (.t 18) (.t 17), none, []⟩]))
     (.region false [] [⟨some 8, .mov (.t 5), none, [5]⟩, ⟨some 9, .bin false .add (.t 8) (.c (.int .i64 1)), none, [8]⟩, ⟨some 5, .mov (.t 9), none, [9]⟩]))))))
  (.seq
   (.region false [] [⟨some 19, .ld true 16 (.t 2), none, [2]⟩, ⟨none, .st 16 (.t 4) (.t 19), none, [19]⟩])
  .ret))))
def rs_13 : List ARes := [.cell 4 true 16]
theorem ac_13_ok : compCode Try.prog (Try.f13.body.getD .skip) = some ac_13.plain := by kernel_rfl
theorem ac_13_chk : ac_13.chk ⟨Try.f13.ntmps, []⟩ = true := by kernel_rfl
theorem ac_13_pairs : ac_13.pairs.map Prod.fst = ac_13.pairs.map Prod.snd := by kernel_rfl
theorem rs_13_ok : Try.f13.results.toList.mapM (compRes Try.prog) = some rs_13 := by kernel_rfl
theorem ok_13 {Γ : Env} (hΓ : EnvOk Try.prog Γ) (sp : Spec) (h : ∀ args mem r mem1, sp args mem = some (r, mem1) → wpA Γ mem.length ac_13 (finQ mem.length rs_13 r mem1) (entry 0 args) mem) : CallOk Try.prog 13 sp :=
  ok_of_body (fn := Try.f13) (c := Try.f13.body.getD .skip) hΓ mix_ok (by kernel_rfl) (by kernel_rfl) ac_13_ok ⟨ac_13_chk, ac_13_pairs⟩ rs_13_ok (by kernel_rfl) sp h

/-- chantry/past.Encode -/
def ac_14 : ACode :=
 (.seq
  (.region false [] [⟨some 1, .box (.t 0), none, [0]⟩, ⟨some 2, .mov (.c (.string ⟨#[]⟩)), none, []⟩, ⟨some 3, .mov (.c (.int .i64 0)), none, [2]⟩])
 (.seal_ 1
  (.seq
   (.seq
    (.region false [] [⟨some 9, .ld true 18 (.t 1), none, []⟩, ⟨some 10, .call 20 [.t 9], none, [9]⟩, ⟨some 11, .un .not (.t 10), none, [10]⟩])
   (.cond (.t 11)
     (.drop [1, 11]
      (.seq
       (.region false [] [⟨some 2, .mov (.c (.string ⟨#[]⟩)), none, []⟩, ⟨some 3, .mov (.c (.int .i64 2)), none, []⟩])
      .ret))
     (.drop [11]
      .skip)))
  (.seq
   (.region false [] [⟨some 12, .fad 0 (.t 1), none, []⟩, ⟨some 13, .ld false 1 (.t 12), none, [12]⟩, ⟨some 14, .cvt .u64 (.t 13), none, [13]⟩, ⟨some 15, .bld [.int .i64 0, .int .u64 0, .string ⟨#[]⟩, .float .f64 0] [(0, 1, .c (.int .i64 1)), (1, 1, .t 14)], none, [14]⟩, ⟨some 16, .bsl 50 4 [.t 15], none, [15]⟩, ⟨some 4, .mov (.t 16), none, [16]⟩])
  (.seq
   (.seq
    (.region false [] [⟨some 17, .fad 1 (.t 1), none, []⟩, ⟨some 18, .ld true 16 (.t 17), none, [17]⟩, ⟨some 19, .mov (.c (.int .i64 0)), none, []⟩])
   (.block 0
    (.loop [1, 4, 18, 19]
     (.seq
      (.region false [] [⟨some 20, .bin false .lss (.t 19) (.c (.int .i64 16)), none, []⟩])
     (.seq
      (.cond (.t 20)
        (.drop [20]
         .skip)
        (.drop [18, 19, 20]
         (.exit 0)))
     (.seq
      (.block 1
       (.seq
        (.region false [] [⟨some 21, .ixa 16 1 false (.t 18) (.t 19), none, []⟩, ⟨some 6, .mov (.t 21), none, [21]⟩])
       (.region false [] [⟨some 22, .mov (.t 4), none, [4]⟩, ⟨some 23, .mov (.t 6), none, [6]⟩, ⟨some 24, .cvt .u64 (.t 23), none, [23]⟩, ⟨some 25, .bld [.int .i64 0, .int .u64 0, .string ⟨#[]⟩, .float .f64 0] [(0, 1, .c (.int .i64 1)), (1, 1, .t 24)], none, [24]⟩, ⟨some 26, .bsl 50 4 [.t 25], none, [25]⟩, ⟨some 27, .app 50 4 40 (.t 22) (.t 26), none, [22, 26]⟩, ⟨some 4, .mov (.t 27), none, [27]⟩])))
     (.region false [] [⟨some 28, .bin false .add (.t 19) (.c (.int .i64 1)), none, [19]⟩, ⟨some 19, .mov (.t 28), none, [28]⟩])))))))
  (.seq
   (.region false [] [⟨some 30, .mov (.t 4), none, [4]⟩, ⟨some 31, .fad 17 (.t 1), none, [1]⟩, ⟨some 32, .ld false 1 (.t 31), none, [31]⟩, ⟨some 33, .bld [.int .i64 0, .int .u64 0, .string ⟨#[]⟩, .float .f64 0] [(0, 1, .c (.int .i64 2)), (2, 1, .t 32)], none, [32]⟩, ⟨some 34, .bsl 50 4 [.t 33], none, [33]⟩, ⟨some 35, .app 50 4 40 (.t 30) (.t 34), none, [30, 34]⟩, ⟨some 36, .call 21 [.t 35], none, [35]⟩, ⟨some 29, .mov (.t 36), none, [36]⟩, ⟨some 37, .ext 0 (.t 29), none, []⟩, ⟨some 38, .ext 1 (.t 29), none, [29]⟩, ⟨some 7, .mov (.t 37), none, [37]⟩, ⟨some 8, .mov (.t 38), none, [38]⟩])
  (.seq
   (.region false [] [⟨some 39, .mov (.t 7), none, [7]⟩, ⟨some 40, .b2s (.t 39), none, [39]⟩, ⟨some 41, .mov (.t 8), none, [8]⟩, ⟨some 2, .mov (.t 40), none, [40]⟩, ⟨some 3, .mov (.t 41), none, [41]⟩])
  .ret)))))))
def rs_14 : List ARes := [.tmp 2, .tmp 3]
theorem ac_14_ok : compCode Try.prog (Try.f14.body.getD .skip) = some ac_14.plain := by kernel_rfl
theorem ac_14_chk : ac_14.chk ⟨Try.f14.ntmps, []⟩ = true := by kernel_rfl
theorem ac_14_pairs : ac_14.pairs.map Prod.fst = ac_14.pairs.map Prod.snd := by kernel_rfl
theorem rs_14_ok : Try.f14.results.toList.mapM (compRes Try.prog) = some rs_14 := by kernel_rfl
theorem ok_14 {Γ : Env} (hΓ : EnvOk Try.prog Γ) (sp : Spec) (h : ∀ args mem r mem1, sp args mem = some (r, mem1) → wpA Γ mem.length ac_14 (finQ mem.length rs_14 r mem1) (entry 0 args) mem) : CallOk Try.prog 14 sp :=
  ok_of_body (fn := Try.f14) (c := Try.f14.body.getD .skip) hΓ mix_ok (by kernel_rfl) (by kernel_rfl) ac_14_ok ⟨ac_14_chk, ac_14_pairs⟩ rs_14_ok (by kernel_rfl) sp h

/-- chantry/chantryref09.Encode -/
def ac_15 : ACode :=
 (.seq
  (.region false [] [⟨some 1, .box (.t 0), none, [0]⟩, ⟨some 2, .mov (.c (.string ⟨#[]⟩)), none, []⟩, ⟨some 3, .mov (.c (.int .i64 0)), none, [2]⟩])
 (.seal_ 1
  (.seq
   (.seq
    (.region false [] [⟨some 8, .ld true 18 (.t 1), none, []⟩, ⟨some 9, .call 22 [.t 8], none, [8]⟩, ⟨some 10, .un .not (.t 9), none, [9]⟩])
   (.cond (.t 10)
     (.drop [1, 10]
      (.seq
       (.region false [] [⟨some 2, .mov (.c (.string ⟨#[]⟩)), none, []⟩, ⟨some 3, .mov (.c (.int .i64 2)), none, []⟩])
      .ret))
     (.drop [10]
      .skip)))
  (.seq
   (.region false [] [⟨some 11, .fad 0 (.t 1), none, []⟩, ⟨some 12, .ld false 1 (.t 11), none, [11]⟩, ⟨some 13, .cvt .u64 (.t 12), none, [12]⟩, ⟨some 14, .call 23 [.t 13], none, [13]⟩, ⟨some 15, .bsl 57 4 [.t 14], none, [14]⟩, ⟨some 4, .mov (.t 15), none, [15]⟩])
  (.seq
   (.seq
    (.region false [] [⟨some 5, .mov (.c (.int .i64 0)), none, []⟩])
   (.block 0
    (.loop [1, 4, 5]
     (.seq
      (.seq
       (.region false [] [⟨some 16, .mov (.t 5), none, []⟩, ⟨some 17, .bin false .lss (.t 16) (.c (.int .i64 16)), none, [16]⟩])
      (.cond (.t 17)
        (.drop [17]
         .skip)
        (.drop [5, 17]
         (.exit 0))))
     (.seq
      (.block 1
       (.region false [] [⟨some 20, .mov (.t 4), none, [4]⟩, ⟨some 21, .mov (.t 5), none, []⟩, ⟨some 22, .fad 1 (.t 1), none, []⟩, ⟨some 23, .iaa 16 1 (.t 22) (.t 21), none, [21, 22]⟩, ⟨some 24, .ld false 1 (.t 23), none, [23]⟩, ⟨some 25, .cvt .u64 (.t 24), none, [24]⟩, ⟨some 26, .call 23 [.t 25], none, [25]⟩, ⟨some 27, .bsl 57 4 [.t 26], none, [26]⟩, ⟨some 28, .app 57 4 40 (.t 20) (.t 27), none, [20, 27]⟩, ⟨some 4, .mov (.t 28), none, [28]⟩]))
     (.region false [] [⟨some 18, .mov (.t 5), none, [5]⟩, ⟨some 19, .bin false .add (.t 18) (.c (.int .i64 1)), none, [18]⟩, ⟨some 5, .mov (.t 19), none, [19]⟩]))))))
  (.seq
   (.region false [] [⟨some 29, .mov (.t 4), none, [4]⟩, ⟨some 30, .fad 17 (.t 1), none, [1]⟩, ⟨some 31, .ld false 1 (.t 30), none, [30]⟩, ⟨some 32, .call 24 [.t 31], none, [31]⟩, ⟨some 33, .bsl 57 4 [.t 32], none, [32]⟩, ⟨some 34, .app 57 4 40 (.t 29) (.t 33), none, [29, 33]⟩, ⟨some 4, .mov (.t 34), none, [34]⟩])
  (.seq
   (.region false [] [⟨some 36, .mov (.t 4), none, [4]⟩, ⟨some 37, .call 25 [.t 36], none, [36]⟩, ⟨some 35, .mov (.t 37), none, [37]⟩, ⟨some 38, .ext 0 (.t 35), none, []⟩, ⟨some 39, .ext 1 (.t 35), none, [35]⟩, ⟨some 6, .mov (.t 38), none, [38]⟩, ⟨some 7, .mov (.t 39), none, [39]⟩])
  (.seq
   (.region false [] [⟨some 40, .mov (.t 6), none, [6]⟩, ⟨some 41, .b2s (.t 40), none, [40]⟩, ⟨some 2, .mov (.t 41), none, [41]⟩, ⟨some 3, .mov (.c (.int .i64 0)), none, []⟩])
  .ret))))))))
def rs_15 : List ARes := [.tmp 2, .tmp 3]
theorem ac_15_ok : compCode Try.prog (Try.f15.body.getD .skip) = some ac_15.plain := by kernel_rfl
theorem ac_15_chk : ac_15.chk ⟨Try.f15.ntmps, []⟩ = true := by kernel_rfl
theorem ac_15_pairs : ac_15.pairs.map Prod.fst = ac_15.pairs.map Prod.snd := by kernel_rfl
theorem rs_15_ok : Try.f15.results.toList.mapM (compRes Try.prog) = some rs_15 := by kernel_rfl
theorem ok_15 {Γ : Env} (hΓ : EnvOk Try.prog Γ) (sp : Spec) (h : ∀ args mem r mem1, sp args mem = some (r, mem1) → wpA Γ mem.length ac_15 (finQ mem.length rs_15 r mem1) (entry 0 args) mem) : CallOk Try.prog 15 sp :=
  ok_of_body (fn := Try.f15) (c := Try.f15.body.getD .skip) hΓ mix_ok (by kernel_rfl) (by kernel_rfl) ac_15_ok ⟨ac_15_chk, ac_15_pairs⟩ rs_15_ok (by kernel_rfl) sp h

/-- chantry/past.Decode -/
def ac_16 : ACode :=
 (.seq
  (.region false [] [⟨some 2, .alloc [.int .i64 0, .int .u16 0, .int .u16 0, .int .u16 0, .int .u16 0, .int .u16 0, .int .u16 0, .int .u16 0, .int .u16 0, .int .u16 0, .int .u16 0, .int .u16 0, .int .u16 0, .int .u16 0, .int .u16 0, .int .u16 0, .int .u16 0, .string ⟨#[]⟩], none, []⟩, ⟨some 3, .mov (.c (.int .i64 0)), none, []⟩])
 (.seq
  (.region false [] [⟨some 9, .mov (.t 0), none, [0]⟩, ⟨some 10, .s2b 5 (.t 9), none, [9]⟩, ⟨some 11, .call 26 [.t 10], none, [10]⟩, ⟨some 8, .mov (.t 11), none, [11]⟩, ⟨some 12, .ext 0 (.t 8), none, []⟩, ⟨some 13, .ext 1 (.t 8), none, [8]⟩, ⟨some 4, .mov (.t 12), none, [12]⟩, ⟨some 5, .mov (.t 13), none, [13]⟩])
 (.seq
  (.seq
   (.region false [] [⟨some 14, .mov (.t 5), none, [5]⟩, ⟨some 15, .bin false .neq (.t 14) (.c (.int .i64 0)), none, [14]⟩, ⟨some 16, .mov (.t 15), none, [15]⟩, ⟨some 17, .mov (.t 4), some (16, false), []⟩, ⟨some 18, .call 28 [], some (16, false), []⟩, ⟨some 19, .call 27 [.t 17, .t 18], some (16, false), [17, 18]⟩, ⟨some 20, .un .not (.t 19), some (16, false), [19]⟩, ⟨some 21, .pick (.t 16) (.c (.bool true)) (.t 20), none, [16, 20]⟩])
  (.cond (.t 21)
    (.drop [4, 21]
     (.seq
      (.region false [] [⟨some 22, .bld [.int .i64 0, .int .u16 0, .int .u16 0, .int .u16 0, .int .u16 0, .int .u16 0, .int .u16 0, .int .u16 0, .int .u16 0, .int .u16 0, .int .u16 0, .int .u16 0, .int .u16 0, .int .u16 0, .int .u16 0, .int .u16 0, .int .u16 0, .string ⟨#[]⟩] [], none, []⟩, ⟨none, .st 18 (.t 2) (.t 22), none, [22]⟩, ⟨some 3, .mov (.c (.int .i64 4)), none, []⟩])
     .ret))
    (.drop [21]
     .skip)))
 (.seq
  (.draws (.tak 0 ⟨some 23, .mov (.t 4), none, []⟩ (.tak 1 ⟨some 24, .iax 4 (.t 23) (.c (.int .i64 0)), none, []⟩ (.tak 2 ⟨some 25, .fad 1 (.t 24), none, []⟩ (.tak 3 ⟨some 26, .ld false 1 (.t 25), none, []⟩ (.tak 4 ⟨some 27, .mnn [.t 26, .c (.int .u64 4)], none, []⟩ (.tak 5 ⟨some 28, .cvt .i64 (.t 27), none, []⟩ (.tak 6 ⟨some 29, .mov (.t 4), none, []⟩ (.tak 7 ⟨some 30, .iax 4 (.t 29) (.c (.int .i64 17)), none, []⟩ (.tak 8 ⟨some 31, .fad 2 (.t 30), none, []⟩ (.tak 9 ⟨some 32, .ld false 1 (.t 31), none, []⟩ (.tak 10 ⟨some 33, .bld [.int .i64 0, .int .u16 0, .int .u16 0, .int .u16 0, .int .u16 0, .int .u16 0, .int .u16 0, .int .u16 0, .int .u16 0, .int .u16 0, .int .u16 0, .int .u16 0, .int .u16 0, .int .u16 0, .int .u16 0, .int .u16 0, .int .u16 0, .string ⟨#[]⟩] [(0, 1, .t 28), (17, 1, .t 32)], none, []⟩ (.alt 11 ⟨some 6, .alloc [.int .i64 0, .int .u16 0, .int .u16 0, .int .u16 0, .int .u16 0, .int .u16 0, .int .u16 0, .int .u16 0, .int .u16 0, .int .u16 0, .int .u16 0, .int .u16 0, .int .u16 0, .int .u16 0, .int .u16 0, .int .u16 0, .int .u16 0, .string ⟨#[]⟩], none, []⟩ (.alt 12 ⟨none, .st 18 (.t 6) (.t 33), none, []⟩ .done .stop) .stop)))))))))))) [[], [0], [1], [2], [3], [4], [], [6], [7], [8], [5, 9], [], [11, 10, 0, 1, 2, 3, 4, 5, 6, 7, 8, 9, 10, 11]] [⟨some 23, .mov (.t 4), none, []⟩, ⟨some 24, .iax 4 (.t 23) (.c (.int .i64 0)), none, []⟩, ⟨some 25, .fad 1 (.t 24), none, []⟩, ⟨some 26, .ld false 1 (.t 25), none, []⟩, ⟨some 27, .mnn [.t 26, .c (.int .u64 4)], none, []⟩, ⟨some 28, .cvt .i64 (.t 27), none, []⟩, ⟨some 29, .mov (.t 4), none, []⟩, ⟨some 30, .iax 4 (.t 29) (.c (.int .i64 17)), none, []⟩, ⟨some 31, .fad 2 (.t 30), none, []⟩, ⟨some 32, .ld false 1 (.t 31), none, []⟩, ⟨some 33, .bld [.int .i64 0, .int .u16 0, .int .u16 0, .int .u16 0, .int .u16 0, .int .u16 0, .int .u16 0, .int .u16 0, .int .u16 0, .int .u16 0, .int .u16 0, .int .u16 0, .int .u16 0, .int .u16 0, .int .u16 0, .int .u16 0, .int .u16 0, .string ⟨#[]⟩] [(0, 1, .t 28), (17, 1, .t 32)], none, []⟩, ⟨some 6, .alloc [.int .i64 0, .int .u16 0, .int .u16 0, .int .u16 0, .int .u16 0, .int .u16 0, .int .u16 0, .int .u16 0, .int .u16 0, .int .u16 0, .int .u16 0, .int .u16 0, .int .u16 0, .int .u16 0, .int .u16 0, .int .u16 0, .int .u16 0, .string ⟨#[]⟩], none, []⟩, ⟨none, .st 18 (.t 6) (.t 33), none, []⟩])
 (.drop [23, 24, 25, 26, 27, 28, 29, 30, 31, 32, 33]
  (.seq
   (.seq
    (.region false [] [⟨some 34, .mov (.c (.int .i64 0)), none, []⟩])
   (.block 0
    (.loop [2, 4, 6, 34]
     (.seq
      (.region false [] [⟨some 35, .bin false .lss (.t 34) (.c (.int .i64 16)), none, []⟩])
     (.seq
      (.cond (.t 35)
        (.drop [35]
         .skip)
        (.drop [4, 34, 35]
         (.exit 0)))
     (.seq
      (.block 1
       (.seq
        (.region false [] [⟨some 36, .mov (.t 34), none, []⟩, ⟨some 7, .mov (.t 36), none, [36]⟩])
       (.region false [] [⟨some 37, .mov (.t 7), none, []⟩, ⟨some 38, .mov (.t 4), none, []⟩, ⟨some 39, .mov (.t 7), none, [7]⟩, ⟨some 40, .bin false .add (.t 39) (.c (.int .i64 1)), none, [39]⟩, ⟨some 41, .iax 4 (.t 38) (.t 40), none, [38, 40]⟩, ⟨some 42, .fad 1 (.t 41), none, [41]⟩, ⟨some 43, .ld false 1 (.t 42), none, [42]⟩, ⟨some 44, .mnn [.t 43, .c (.int .u64 1001)], none, [43]⟩, ⟨some 45, .cvt .u16 (.t 44), none, [44]⟩, ⟨some 46, .fad 1 (.t 6), none, []⟩, ⟨some 47, .iaa 16 1 (.t 46) (.t 37), none, [37, 46]⟩, ⟨none, .st 1 (.t 47) (.t 45), none, [45, 47]⟩])))
     (.region false [] [⟨some 48, .bin false .add (.t 34) (.c (.int .i64 1)), none, [34]⟩, ⟨some 34, .mov (.t 48), none, [48]⟩])))))))
  (.seq
   (.seq
    (.region false [] [⟨some 49, .ld true 18 (.t 6), none, []⟩, ⟨some 50, .call 20 [.t 49], none, [49]⟩, ⟨some 51, .un .not (.t 50), none, [50]⟩])
   (.cond (.t 51)
     (.drop [6, 51]
      (.seq
       (.region false [] [⟨some 52, .bld [.int .i64 0, .int .u16 0, .int .u16 0, .int .u16 0, .int .u16 0, .int .u16 0, .int .u16 0, .int .u16 0, .int .u16 0, .int .u16 0, .int .u16 0, .int .u16 0, .int .u16 0, .int .u16 0, .int .u16 0, .int .u16 0, .int .u16 0, .string ⟨#[]⟩] [], none, []⟩, ⟨none, .st 18 (.t 2) (.t 52), none, [52]⟩, ⟨some 3, .mov (.c (.int .i64 4)), none, []⟩])
      .ret))
     (.drop [51]
      .skip)))
  (.seq
   (.region false [] [⟨some 53, .ld true 18 (.t 6), none, [6]⟩, ⟨none, .st 18 (.t 2) (.t 53), none, [53]⟩, ⟨some 3, .mov (.c (.int .i64 0)), none, []⟩])
  .ret))))))))
def rs_16 : List ARes := [.cell 2 true 18, .tmp 3]
theorem ac_16_ok : compCode Try.prog (Try.f16.body.getD .skip) = some ac_16.plain := by kernel_rfl
theorem ac_16_chk : ac_16.chk ⟨Try.f16.ntmps, []⟩ = true := by kernel_rfl
theorem ac_16_pairs : ac_16.pairs.map Prod.fst = ac_16.pairs.map Prod.snd := by kernel_rfl
theorem rs_16_ok : Try.f16.results.toList.mapM (compRes Try.prog) = some rs_16 := by kernel_rfl
theorem ok_16 {Γ : Env} (hΓ : EnvOk Try.prog Γ) (sp : Spec) (h : ∀ args mem r mem1, sp args mem = some (r, mem1) → wpA Γ mem.length ac_16 (finQ mem.length rs_16 r mem1) (entry 0 args) mem) : CallOk Try.prog 16 sp :=
  ok_of_body (fn := Try.f16) (c := Try.f16.body.getD .skip) hΓ mix_ok (by kernel_rfl) (by kernel_rfl) ac_16_ok ⟨ac_16_chk, ac_16_pairs⟩ rs_16_ok (by kernel_rfl) sp h

/-- chantry/chantryref09.Decode -/
def ac_17 : ACode :=
 (.seq
  (.region false [] [⟨some 2, .alloc [.int .i64 0, .int .u16 0, .int .u16 0, .int .u16 0, .int .u16 0, .int .u16 0, .int .u16 0, .int .u16 0, .int .u16 0, .int .u16 0, .int .u16 0, .int .u16 0, .int .u16 0, .int .u16 0, .int .u16 0, .int .u16 0, .int .u16 0, .string ⟨#[]⟩], none, []⟩, ⟨some 3, .mov (.c (.int .i64 0)), none, []⟩])
 (.seq
  (.region false [] [⟨some 12, .mov (.t 0), none, []⟩, ⟨some 13, .s2b 5 (.t 12), none, [12]⟩, ⟨some 14, .call 29 [.t 13], none, [13]⟩, ⟨some 11, .mov (.t 14), none, [14]⟩, ⟨some 15, .ext 0 (.t 11), none, []⟩, ⟨some 16, .ext 1 (.t 11), none, [11]⟩, ⟨some 4, .mov (.t 15), none, [15]⟩, ⟨some 5, .mov (.t 16), none, [16]⟩])
 (.seq
  (.seq
   (.region false [] [⟨some 17, .mov (.t 5), none, [5]⟩, ⟨some 18, .bin false .neq (.t 17) (.c (.int .i64 0)), none, [17]⟩, ⟨some 19, .mov (.t 18), none, [18]⟩, ⟨some 20, .mov (.t 4), some (19, false), []⟩, ⟨some 21, .len false (.t 20), some (19, false), [20]⟩, ⟨some 22, .bin false .neq (.t 21) (.c (.int .i64 18)), some (19, false), [21]⟩, ⟨some 23, .pick (.t 19) (.c (.bool true)) (.t 22), none, [19, 22]⟩])
  (.cond (.t 23)
    (.drop [0, 4, 23]
     (.seq
      (.region false [] [⟨some 24, .bld [.int .i64 0, .int .u16 0, .int .u16 0, .int .u16 0, .int .u16 0, .int .u16 0, .int .u16 0, .int .u16 0, .int .u16 0, .int .u16 0, .int .u16 0, .int .u16 0, .int .u16 0, .int .u16 0, .int .u16 0, .int .u16 0, .int .u16 0, .string ⟨#[]⟩] [], none, []⟩, ⟨none, .st 18 (.t 2) (.t 24), none, [24]⟩, ⟨some 3, .mov (.c (.int .i64 4)), none, []⟩])
     .ret))
    (.drop [23]
     .skip)))
 (.seq
  (.draws (.tak 0 ⟨some 25, .mov (.t 4), none, []⟩ (.tak 1 ⟨some 26, .iax 4 (.t 25) (.c (.int .i64 0)), none, []⟩ (.tak 2 ⟨some 27, .fad 1 (.t 26), none, []⟩ (.tak 3 ⟨some 28, .ld false 1 (.t 27), none, []⟩ (.tak 4 ⟨some 29, .mnn [.t 28, .c (.int .u64 9)], none, []⟩ (.tak 5 ⟨some 30, .cvt .i64 (.t 29), none, []⟩ (.tak 6 ⟨some 31, .mov (.t 4), none, []⟩ (.tak 7 ⟨some 32, .iax 4 (.t 31) (.c (.int .i64 17)), none, []⟩ (.tak 8 ⟨some 33, .fad 2 (.t 32), none, []⟩ (.tak 9 ⟨some 34, .ld false 1 (.t 33), none, []⟩ (.tak 10 ⟨some 35, .bld [.int .i64 0, .int .u16 0, .int .u16 0, .int .u16 0, .int .u16 0, .int .u16 0, .int .u16 0, .int .u16 0, .int .u16 0, .int .u16 0, .int .u16 0, .int .u16 0, .int .u16 0, .int .u16 0, .int .u16 0, .int .u16 0, .int .u16 0, .string ⟨#[]⟩] [(0, 1, .t 30), (17, 1, .t 34)], none, []⟩ (.alt 11 ⟨some 6, .alloc [.int .i64 0, .int .u16 0, .int .u16 0, .int .u16 0, .int .u16 0, .int .u16 0, .int .u16 0, .int .u16 0, .int .u16 0, .int .u16 0, .int .u16 0, .int .u16 0, .int .u16 0, .int .u16 0, .int .u16 0, .int .u16 0, .int .u16 0, .string ⟨#[]⟩], none, []⟩ (.alt 12 ⟨none, .st 18 (.t 6) (.t 35), none, []⟩ .done .stop) .stop)))))))))))) [[], [0], [1], [2], [3], [4], [], [6], [7], [8], [5, 9], [], [11, 10, 0, 1, 2, 3, 4, 5, 6, 7, 8, 9, 10, 11]] [⟨some 25, .mov (.t 4), none, []⟩, ⟨some 26, .iax 4 (.t 25) (.c (.int .i64 0)), none, []⟩, ⟨some 27, .fad 1 (.t 26), none, []⟩, ⟨some 28, .ld false 1 (.t 27), none, []⟩, ⟨some 29, .mnn [.t 28, .c (.int .u64 9)], none, []⟩, ⟨some 30, .cvt .i64 (.t 29), none, []⟩, ⟨some 31, .mov (.t 4), none, []⟩, ⟨some 32, .iax 4 (.t 31) (.c (.int .i64 17)), none, []⟩, ⟨some 33, .fad 2 (.t 32), none, []⟩, ⟨some 34, .ld false 1 (.t 33), none, []⟩, ⟨some 35, .bld [.int .i64 0, .int .u16 0, .int .u16 0, .int .u16 0, .int .u16 0, .int .u16 0, .int .u16 0, .int .u16 0, .int .u16 0, .int .u16 0, .int .u16 0, .int .u16 0, .int .u16 0, .int .u16 0, .int .u16 0, .int .u16 0, .int .u16 0, .string ⟨#[]⟩] [(0, 1, .t 30), (17, 1, .t 34)], none, []⟩, ⟨some 6, .alloc [.int .i64 0, .int .u16 0, .int .u16 0, .int .u16 0, .int .u16 0, .int .u16 0, .int .u16 0, .int .u16 0, .int .u16 0, .int .u16 0, .int .u16 0, .int .u16 0, .int .u16 0, .int .u16 0, .int .u16 0, .int .u16 0, .int .u16 0, .string ⟨#[]⟩], none, []⟩, ⟨none, .st 18 (.t 6) (.t 35), none, []⟩])
 (.drop [25, 26, 27, 28, 29, 30, 31, 32, 33, 34, 35]
  (.seq
   (.region false [] [⟨some 7, .alloc [.int .u16 0, .int .u16 0, .int .u16 0, .int .u16 0, .int .u16 0, .int .u16 0, .int .u16 0, .int .u16 0, .int .u16 0, .int .u16 0, .int .u16 0, .int .u16 0, .int .u16 0, .int .u16 0, .int .u16 0, .int .u16 0], none, []⟩])
  (.seq
   (.seq
    (.region false [] [⟨some 8, .mov (.c (.int .i64 0)), none, []⟩])
   (.block 0
    (.loop [0, 2, 4, 6, 7, 8]
     (.seq
      (.seq
       (.region false [] [⟨some 36, .mov (.t 8), none, []⟩, ⟨some 37, .bin false .lss (.t 36) (.c (.int .i64 16)), none, [36]⟩])
      (.cond (.t 37)
        (.drop [37]
         .skip)
        (.drop [4, 8, 37]
         (.exit 0))))
     (.seq
      (.block 1
       (.region false [] [⟨some 40, .mov (.t 8), none, []⟩, ⟨some 41, .mov (.t 4), none, []⟩, ⟨some 42, .mov (.t 8), none, []⟩, ⟨some 43, .bin false .add (.t 42) (.c (.int .i64 1)), none, [42]⟩, ⟨some 44, .iax 4 (.t 41) (.t 43), none, [41, 43]⟩, ⟨some 45, .fad 1 (.t 44), none, [44]⟩, ⟨some 46, .ld false 1 (.t 45), none, [45]⟩, ⟨some 47, .mnn [.t 46, .c (.int .u64 9999)], none, [46]⟩, ⟨some 48, .cvt .u16 (.t 47), none, [47]⟩, ⟨some 49, .iaa 16 1 (.t 7) (.t 40), none, [40]⟩, ⟨none, .st 1 (.t 49) (.t 48), none, [48, 49]⟩]))
     (.region false [] [⟨some 38, .mov (.t 8), none, [8]⟩, ⟨some 39, .bin false .add (.t 38) (.c (.int .i64 1)), none, [38]⟩, ⟨some 8, .mov (.t 39), none, [39]⟩]))))))
  (.seq
   (.region false [] [⟨some 50, .ld true 16 (.t 7), none, [7]⟩, ⟨some 51, .fad 1 (.t 6), none, []⟩, ⟨none, .st 16 (.t 51) (.t 50), none, [50, 51]⟩])
  (.seq
   (.region false [] [⟨some 53, .ld true 18 (.t 6), none, []⟩, ⟨some 54, .call 15 [.t 53], none, [53]⟩, ⟨some 52, .mov (.t 54), none, [54]⟩, ⟨some 55, .ext 0 (.t 52), none, []⟩, ⟨some 56, .ext 1 (.t 52), none, [52]⟩, ⟨some 9, .mov (.t 55), none, [55]⟩, ⟨some 10, .mov (.t 56), none, [56]⟩])
  (.seq
   (.seq
    (.region false [] [⟨some 57, .mov (.t 10), none, [10]⟩, ⟨some 58, .bin false .neq (.t 57) (.c (.int .i64 0)), none, [57]⟩, ⟨some 59, .mov (.t 58), none, [58]⟩, ⟨some 60, .mov (.t 9), some (59, false), [9]⟩, ⟨some 61, .mov (.t 0), some (59, false), [0]⟩, ⟨some 62, .bin false .neq (.t 60) (.t 61), some (59, false), [60, 61]⟩, ⟨some 63, .pick (.t 59) (.c (.bool true)) (.t 62), none, [59, 62]⟩])
   (.cond (.t 63)
     (.drop [6, 63]
      (.seq
       (.region false [] [⟨some 64, .bld [.int .i64 0, .int .u16 0, .int .u16 0, .int .u16 0, .int .u16 0, .int .u16 0, .int .u16 0, .int .u16 0, .int .u16 0, .int .u16 0, .int .u16 0, .int .u16 0, .int .u16 0, .int .u16 0, .int .u16 0, .int .u16 0, .int .u16 0, .string ⟨#[]⟩] [], none, []⟩, ⟨none, .st 18 (.t 2) (.t 64), none, [64]⟩, ⟨some 3, .mov (.c (.int .i64 4)), none, []⟩])
      .ret))
     (.drop [63]
      .skip)))
  (.seq
   (.region false [] [⟨some 65, .ld true 18 (.t 6), none, [6]⟩, ⟨none, .st 18 (.t 2) (.t 65), none, [65]⟩, ⟨some 3, .mov (.c (.int .i64 0)), none, []⟩])
  .ret)))))))))))
def rs_17 : List ARes := [.cell 2 true 18, .tmp 3]
theorem ac_17_ok : compCode Try.prog (Try.f17.body.getD .skip) = some ac_17.plain := by kernel_rfl
theorem ac_17_chk : ac_17.chk ⟨Try.f17.ntmps, []⟩ = true := by kernel_rfl
theorem ac_17_pairs : ac_17.pairs.map Prod.fst = ac_17.pairs.map Prod.snd := by kernel_rfl
theorem rs_17_ok : Try.f17.results.toList.mapM (compRes Try.prog) = some rs_17 := by kernel_rfl
theorem ok_17 {Γ : Env} (hΓ : EnvOk Try.prog Γ) (sp : Spec) (h : ∀ args mem r mem1, sp args mem = some (r, mem1) → wpA Γ mem.length ac_17 (finQ mem.length rs_17 r mem1) (entry 0 args) mem) : CallOk Try.prog 17 sp :=
  ok_of_body (fn := Try.f17) (c := Try.f17.body.getD .skip) hΓ mix_ok (by kernel_rfl) (by kernel_rfl) ac_17_ok ⟨ac_17_chk, ac_17_pairs⟩ rs_17_ok (by kernel_rfl) sp h

/-- chantry/past.Right -/
def ac_18 : ACode :=
 (.seq
  (.region false [] [⟨some 3, .box (.t 0), none, [0]⟩, ⟨some 6, .mov (.c (.bool false)), none, []⟩])
 (.seal_ 3
  (.seq
   (.region false [] [⟨some 7, .ld true 18 (.t 3), none, []⟩, ⟨some 8, .call 20 [.t 7], none, [7]⟩, ⟨some 9, .mov (.t 8), none, [8]⟩, ⟨some 10, .mov (.t 1), some (9, true), []⟩, ⟨some 11, .bin false .lss (.t 10) (.c (.int .u8 16)), some (9, true), [10]⟩, ⟨some 12, .pick (.t 9) (.t 11) (.c (.bool false)), none, [9, 11]⟩, ⟨some 13, .mov (.t 12), none, [12]⟩, ⟨some 14, .mov (.t 1), some (13, true), [1]⟩, ⟨some 15, .fad 1 (.t 3), some (13, true), [3]⟩, ⟨some 16, .iaa 16 1 (.t 15) (.t 14), some (13, true), [14, 15]⟩, ⟨some 17, .ld false 1 (.t 16), some (13, true), [16]⟩, ⟨some 18, .cvt .i64 (.t 17), some (13, true), [17]⟩, ⟨some 19, .mov (.t 2), some (13, true), [2]⟩, ⟨some 20, .bin false .eql (.t 18) (.t 19), some (13, true), [18, 19]⟩, ⟨some 21, .pick (.t 13) (.t 20) (.c (.bool false)), none, [13, 20]⟩, ⟨some 6, .mov (.t 21), none, [21]⟩])
  .ret)))
def rs_18 : List ARes := [.tmp 6]
theorem ac_18_ok : compCode Try.prog (Try.f18.body.getD .skip) = some ac_18.plain := by kernel_rfl
theorem ac_18_chk : ac_18.chk ⟨Try.f18.ntmps, []⟩ = true := by kernel_rfl
theorem ac_18_pairs : ac_18.pairs.map Prod.fst = ac_18.pairs.map Prod.snd := by kernel_rfl
theorem rs_18_ok : Try.f18.results.toList.mapM (compRes Try.prog) = some rs_18 := by kernel_rfl
theorem ok_18 {Γ : Env} (hΓ : EnvOk Try.prog Γ) (sp : Spec) (h : ∀ args mem r mem1, sp args mem = some (r, mem1) → wpA Γ mem.length ac_18 (finQ mem.length rs_18 r mem1) (entry 0 args) mem) : CallOk Try.prog 18 sp :=
  ok_of_body (fn := Try.f18) (c := Try.f18.body.getD .skip) hΓ mix_ok (by kernel_rfl) (by kernel_rfl) ac_18_ok ⟨ac_18_chk, ac_18_pairs⟩ rs_18_ok (by kernel_rfl) sp h

/-- chantry/chantryref09.Right -/
def ac_19 : ACode :=
 (.seq
  (.region false [] [⟨some 3, .box (.t 0), none, [0]⟩, ⟨some 6, .mov (.c (.bool false)), none, []⟩])
 (.seal_ 3
  (.seq
   (.region false [] [⟨some 7, .ld true 18 (.t 3), none, []⟩, ⟨some 8, .call 22 [.t 7], none, [7]⟩, ⟨some 9, .mov (.t 8), none, [8]⟩, ⟨some 10, .mov (.t 1), some (9, true), []⟩, ⟨some 11, .bin false .lss (.t 10) (.c (.int .u8 16)), some (9, true), [10]⟩, ⟨some 12, .pick (.t 9) (.t 11) (.c (.bool false)), none, [9, 11]⟩, ⟨some 13, .mov (.t 12), none, [12]⟩, ⟨some 14, .mov (.t 1), some (13, true), [1]⟩, ⟨some 15, .fad 1 (.t 3), some (13, true), [3]⟩, ⟨some 16, .iaa 16 1 (.t 15) (.t 14), some (13, true), [14, 15]⟩, ⟨some 17, .ld false 1 (.t 16), some (13, true), [16]⟩, ⟨some 18, .cvt .i64 (.t 17), some (13, true), [17]⟩, ⟨some 19, .mov (.t 2), some (13, true), [2]⟩, ⟨some 20, .bin false .eql (.t 18) (.t 19), some (13, true), [18, 19]⟩, ⟨some 21, .pick (.t 13) (.t 20) (.c (.bool false)), none, [13, 20]⟩, ⟨some 6, .mov (.t 21), none, [21]⟩])
  .ret)))
def rs_19 : List ARes := [.tmp 6]
theorem ac_19_ok : compCode Try.prog (Try.f19.body.getD .skip) = some ac_19.plain := by kernel_rfl
theorem ac_19_chk : ac_19.chk ⟨Try.f19.ntmps, []⟩ = true := by kernel_rfl
theorem ac_19_pairs : ac_19.pairs.map Prod.fst = ac_19.pairs.map Prod.snd := by kernel_rfl
theorem rs_19_ok : Try.f19.results.toList.mapM (compRes Try.prog) = some rs_19 := by kernel_rfl
theorem ok_19 {Γ : Env} (hΓ : EnvOk Try.prog Γ) (sp : Spec) (h : ∀ args mem r mem1, sp args mem = some (r, mem1) → wpA Γ mem.length ac_19 (finQ mem.length rs_19 r mem1) (entry 0 args) mem) : CallOk Try.prog 19 sp :=
  ok_of_body (fn := Try.f19) (c := Try.f19.body.getD .skip) hΓ mix_ok (by kernel_rfl) (by kernel_rfl) ac_19_ok ⟨ac_19_chk, ac_19_pairs⟩ rs_19_ok (by kernel_rfl) sp h

/-- (chantry/past.Body).may -/
def ac_20 : ACode :=
 (.seq
  (.region false [] [⟨some 1, .box (.t 0), none, [0]⟩, ⟨some 2, .mov (.c (.bool false)), none, []⟩])
 (.seal_ 1
  (.seq
   (.seq
    (.region false [] [⟨some 5, .fad 1 (.t 1), none, []⟩, ⟨some 6, .ld true 16 (.t 5), none, [5]⟩, ⟨some 7, .mov (.c (.int .i64 0)), none, []⟩])
   (.block 0
    (.loop [1, 6, 7]
     (.seq
      (.region false [] [⟨some 8, .bin false .lss (.t 7) (.c (.int .i64 16)), none, []⟩])
     (.seq
      (.cond (.t 8)
        (.drop [8]
         .skip)
        (.drop [6, 7, 8]
         (.exit 0)))
     (.seq
      (.block 1
       (.seq
        (.region false [] [⟨some 9, .ixa 16 1 false (.t 6) (.t 7), none, []⟩, ⟨some 4, .mov (.t 9), none, [9]⟩])
       (.seq
        (.region false [] [⟨some 10, .mov (.t 4), none, [4]⟩, ⟨some 11, .bin false .gtr (.t 10) (.c (.int .u16 1000)), none, [10]⟩])
       (.cond (.t 11)
         (.drop [1, 6, 7, 11]
          (.seq
           (.region false [] [⟨some 2, .mov (.c (.bool false)), none, []⟩])
          .ret))
         (.drop [11]
          .skip)))))
     (.region false [] [⟨some 12, .bin false .add (.t 7) (.c (.int .i64 1)), none, [7]⟩, ⟨some 7, .mov (.t 12), none, [12]⟩])))))))
  (.seq
   (.region false [] [⟨some 13, .fad 0 (.t 1), none, []⟩, ⟨some 14, .ld false 1 (.t 13), none, [13]⟩, ⟨some 15, .bin false .geq (.t 14) (.c (.int .i64 1)), none, [14]⟩, ⟨some 16, .mov (.t 15), none, [15]⟩, ⟨some 17, .fad 0 (.t 1), some (16, true), []⟩, ⟨some 18, .ld false 1 (.t 17), some (16, true), [17]⟩, ⟨some 19, .bin false .leq (.t 18) (.c (.int .i64 3)), some (16, true), [18]⟩, ⟨some 20, .pick (.t 16) (.t 19) (.c (.bool false)), none, [16, 19]⟩, ⟨some 21, .mov (.t 20), none, [20]⟩, ⟨some 22, .fad 17 (.t 1), some (21, true), [1]⟩, ⟨some 23, .ld false 1 (.t 22), some (21, true), [22]⟩, ⟨some 24, .len true (.t 23), some (21, true), [23]⟩, ⟨some 25, .bin false .leq (.t 24) (.c (.int .i64 400)), some (21, true), [24]⟩, ⟨some 26, .pick (.t 21) (.t 25) (.c (.bool false)), none, [21, 25]⟩, ⟨some 2, .mov (.t 26), none, [26]⟩])
  .ret))))
def rs_20 : List ARes := [.tmp 2]
theorem ac_20_ok : compCode Try.prog (Try.f20.body.getD .skip) = some ac_20.plain := by kernel_rfl
theorem ac_20_chk : ac_20.chk ⟨Try.f20.ntmps, []⟩ = true := by kernel_rfl
theorem ac_20_pairs : ac_20.pairs.map Prod.fst = ac_20.pairs.map Prod.snd := by kernel_rfl
theorem rs_20_ok : Try.f20.results.toList.mapM (compRes Try.prog) = some rs_20 := by kernel_rfl
theorem ok_20 {Γ : Env} (hΓ : EnvOk Try.prog Γ) (sp : Spec) (h : ∀ args mem r mem1, sp args mem = some (r, mem1) → wpA Γ mem.length ac_20 (finQ mem.length rs_20 r mem1) (entry 0 args) mem) : CallOk Try.prog 20 sp :=
  ok_of_body (fn := Try.f20) (c := Try.f20.body.getD .skip) hΓ mix_ok (by kernel_rfl) (by kernel_rfl) ac_20_ok ⟨ac_20_chk, ac_20_pairs⟩ rs_20_ok (by kernel_rfl) sp h

/-- chantry/pack.Encode -/
def ac_21 : ACode :=
 (.seq
  (.region false [] [⟨some 2, .mov (.c (.slice none 0 0)), none, []⟩, ⟨some 3, .mov (.c (.int .i64 0)), none, [2]⟩])
 (.seq
  (.region false [] [⟨some 7, .mov (.t 0), none, []⟩, ⟨some 8, .len false (.t 7), none, [7]⟩, ⟨some 9, .cvt .u8 (.t 8), none, [8]⟩, ⟨some 10, .bsl 5 1 [.t 9], none, [9]⟩, ⟨some 4, .mov (.t 10), none, [10]⟩])
 (.seq
  (.seq
   (.region false [] [⟨some 11, .mov (.t 0), none, []⟩, ⟨some 12, .len false (.t 11), none, []⟩, ⟨some 13, .mov (.c (.int .i64 0)), none, []⟩])
  (.block 0
   (.loop [0, 4, 11, 12, 13]
    (.seq
     (.region false [] [⟨some 14, .bin false .lss (.t 13) (.t 12), none, []⟩])
    (.seq
     (.cond (.t 14)
       (.drop [14]
        .skip)
       (.drop [11, 12, 13, 14]
        (.exit 0)))
    (.seq
     (.block 1
      (.seq
       (.region false [] [⟨some 15, .iax 4 (.t 11) (.t 13), none, []⟩, ⟨some 16, .ld true 4 (.t 15), none, [15]⟩, ⟨some 6, .alloc [.int .i64 0, .int .u64 0, .string ⟨#[]⟩, .float .f64 0], none, []⟩, ⟨none, .st 4 (.t 6) (.t 16), none, [16]⟩])
      (.seal_ 6
       (.seq
        (.seq
         (.region false [] [⟨some 17, .ld true 4 (.t 6), none, []⟩, ⟨some 18, .call 30 [.t 17], none, [17]⟩, ⟨some 19, .un .not (.t 18), none, [18]⟩])
        (.cond (.t 19)
          (.drop [0, 4, 6, 11, 12, 13, 19]
           (.seq
            (.region false [] [⟨some 2, .mov (.c (.slice none 0 0)), none, []⟩, ⟨some 3, .mov (.c (.int .i64 2)), none, []⟩])
           .ret))
          (.drop [19]
           .skip)))
       (.seq
        (.region false [] [⟨some 20, .mov (.t 4), none, [4]⟩, ⟨some 21, .fad 0 (.t 6), none, []⟩, ⟨some 22, .ld false 1 (.t 21), none, [21]⟩, ⟨some 23, .cvt .u8 (.t 22), none, [22]⟩, ⟨some 24, .bsl 5 1 [.t 23], none, [23]⟩, ⟨some 25, .app 5 1 1 (.t 20) (.t 24), none, [20, 24]⟩, ⟨some 4, .mov (.t 25), none, [25]⟩])
       (.seq
        (.region false [] [⟨some 26, .fad 0 (.t 6), none, []⟩, ⟨some 27, .ld false 1 (.t 26), none, [26]⟩])
       (.block 2
        (.seq
         (.region false [] [⟨some 29, .bin false .eql (.t 27) (.c (.int .i64 1)), none, []⟩, ⟨some 28, .mov (.t 29), none, [29]⟩])
        (.cond (.t 28)
          (.drop [27, 28]
           (.region false [] [⟨some 30, .mov (.t 4), none, [4]⟩, ⟨some 31, .fad 1 (.t 6), none, [6]⟩, ⟨some 32, .ld false 1 (.t 31), none, [31]⟩, ⟨some 33, .call 31 [.t 30, .t 32], none, [30, 32]⟩, ⟨some 4, .mov (.t 33), none, [33]⟩]))
          (.drop [28]
           (.seq
            (.region false [] [⟨some 35, .bin false .eql (.t 27) (.c (.int .i64 2)), none, []⟩, ⟨some 34, .mov (.t 35), none, [35]⟩])
           (.cond (.t 34)
             (.drop [27, 34]
              (.draws (.tak 0 ⟨some 36, .mov (.t 4), none, []⟩ (.tak 1 ⟨some 37, .fad 2 (.t 6), none, []⟩ (.tak 2 ⟨some 38, .ld false 1 (.t 37), none, []⟩ (.tak 3 ⟨some 39, .len true (.t 38), none, []⟩ (.tak 4 ⟨some 40, .cvt .u64 (.t 39), none, []⟩ (.tak 6 ⟨some 42, .fad 2 (.t 6), none, []⟩ (.tak 7 ⟨some 43, .ld false 1 (.t 42), none, []⟩ (.alt 5 ⟨some 41, .call 31 [.t 36, .t 40], none, []⟩ (.alt 8 ⟨some 44, .aps 5 (.t 41) (.t 43), none, []⟩ (.tak 9 ⟨some 4, .mov (.t 44), none, []⟩ .done) .stop) .stop)))))))) [[], [], [1], [2], [3], [0, 4], [], [6], [5, 7, 5], [8, 8, 0, 1, 2, 3, 4, 5, 6, 7, 8]] [⟨some 36, .mov (.t 4), none, []⟩, ⟨some 37, .fad 2 (.t 6), none, []⟩, ⟨some 38, .ld false 1 (.t 37), none, []⟩, ⟨some 39, .len true (.t 38), none, []⟩, ⟨some 40, .cvt .u64 (.t 39), none, []⟩, ⟨some 41, .call 31 [.t 36, .t 40], none, []⟩, ⟨some 42, .fad 2 (.t 6), none, []⟩, ⟨some 43, .ld false 1 (.t 42), none, []⟩, ⟨some 44, .aps 5 (.t 41) (.t 43), none, []⟩, ⟨some 4, .mov (.t 44), none, []⟩]))
             (.drop [34]
              (.seq
               (.region false [] [⟨some 46, .bin false .eql (.t 27) (.c (.int .i64 3)), none, [27]⟩, ⟨some 45, .mov (.t 46), none, [46]⟩])
              (.cond (.t 45)
                (.drop [45]
                 (.region false [] [⟨some 47, .mov (.t 4), none, [4]⟩, ⟨some 48, .fad 3 (.t 6), none, [6]⟩, ⟨some 49, .ld false 1 (.t 48), none, [48]⟩, ⟨some 50, .call 33 [.t 49], none, [49]⟩, ⟨some 51, .call 32 [.t 47, .t 50, .c (.int .i64 8)], none, [47, 50]⟩, ⟨some 4, .mov (.t 51), none, [51]⟩]))
                (.drop [6, 45]
                 .skip))))))))))))))))
    (.region false [] [⟨some 52, .bin false .add (.t 13) (.c (.int .i64 1)), none, [13]⟩, ⟨some 13, .mov (.t 52), none, [52]⟩])))))))
 (.seq
  (.seq
   (.region false [] [⟨some 53, .mov (.t 0), none, [0]⟩, ⟨some 54, .len false (.t 53), none, [53]⟩, ⟨some 55, .bin false .gtr (.t 54) (.c (.int .i64 200)), none, [54]⟩, ⟨some 56, .mov (.t 55), none, [55]⟩, ⟨some 57, .mov (.t 4), some (56, false), []⟩, ⟨some 58, .len false (.t 57), some (56, false), [57]⟩, ⟨some 59, .bin false .gtr (.t 58) (.c (.int .i64 8000)), some (56, false), [58]⟩, ⟨some 60, .pick (.t 56) (.c (.bool true)) (.t 59), none, [56, 59]⟩])
  (.cond (.t 60)
    (.drop [4, 60]
     (.seq
      (.region false [] [⟨some 2, .mov (.c (.slice none 0 0)), none, []⟩, ⟨some 3, .mov (.c (.int .i64 3)), none, []⟩])
     .ret))
    (.drop [60]
     .skip)))
 (.seq
  (.region false [] [⟨some 61, .mov (.t 4), none, [4]⟩, ⟨some 2, .mov (.t 61), none, [61]⟩, ⟨some 3, .mov (.c (.int .i64 0)), none, []⟩])
 .ret)))))
def rs_21 : List ARes := [.tmp 2, .tmp 3]
theorem ac_21_ok : compCode Try.prog (Try.f21.body.getD .skip) = some ac_21.plain := by kernel_rfl
theorem ac_21_chk : ac_21.chk ⟨Try.f21.ntmps, []⟩ = true := by kernel_rfl
theorem ac_21_pairs : ac_21.pairs.map Prod.fst = ac_21.pairs.map Prod.snd := by kernel_rfl
theorem rs_21_ok : Try.f21.results.toList.mapM (compRes Try.prog) = some rs_21 := by kernel_rfl
theorem ok_21 {Γ : Env} (hΓ : EnvOk Try.prog Γ) (sp : Spec) (h : ∀ args mem r mem1, sp args mem = some (r, mem1) → wpA Γ mem.length ac_21 (finQ mem.length rs_21 r mem1) (entry 0 args) mem) : CallOk Try.prog 21 sp :=
  ok_of_body (fn := Try.f21) (c := Try.f21.body.getD .skip) hΓ mix_ok (by kernel_rfl) (by kernel_rfl) ac_21_ok ⟨ac_21_chk, ac_21_pairs⟩ rs_21_ok (by kernel_rfl) sp h

/-- chantry/chantryref09.May -/
def ac_22 : ACode :=
 (.seq
  (.region false [] [⟨some 1, .box (.t 0), none, [0]⟩, ⟨some 2, .mov (.c (.bool false)), none, []⟩])
 (.seal_ 1
  (.seq
   (.seq
    (.region false [] [⟨some 3, .mov (.c (.int .i64 0)), none, []⟩])
   (.block 0
    (.loop [1, 3]
     (.seq
      (.seq
       (.region false [] [⟨some 4, .mov (.t 3), none, []⟩, ⟨some 5, .bin false .lss (.t 4) (.c (.int .i64 16)), none, [4]⟩])
      (.cond (.t 5)
        (.drop [5]
         .skip)
        (.drop [3, 5]
         (.exit 0))))
     (.seq
      (.block 1
       (.seq
        (.region false [] [⟨some 8, .mov (.t 3), none, []⟩, ⟨some 9, .fad 1 (.t 1), none, []⟩, ⟨some 10, .iaa 16 1 (.t 9) (.t 8), none, [8, 9]⟩, ⟨some 11, .ld false 1 (.t 10), none, [10]⟩, ⟨some 12, .bin false .gtr (.t 11) (.c (.int .u16 1000)), none, [11]⟩])
       (.cond (.t 12)
         (.drop [1, 3, 12]
          (.seq
           (.region false [] [⟨some 2, .mov (.c (.bool false)), none, []⟩])
          .ret))
         (.drop [12]
          .skip))))
     (.region false [] [⟨some 6, .mov (.t 3), none, [3]⟩, ⟨some 7, .bin false .add (.t 6) (.c (.int .i64 1)), none, [6]⟩, ⟨some 3, .mov (.t 7), none, [7]⟩]))))))
  (.seq
   (.region false [] [⟨some 13, .fad 0 (.t 1), none, []⟩, ⟨some 14, .ld false 1 (.t 13), none, [13]⟩, ⟨some 15, .bin false .geq (.t 14) (.c (.int .i64 1)), none, [14]⟩, ⟨some 16, .mov (.t 15), none, [15]⟩, ⟨some 17, .fad 0 (.t 1), some (16, true), []⟩, ⟨some 18, .ld false 1 (.t 17), some (16, true), [17]⟩, ⟨some 19, .bin false .leq (.t 18) (.c (.int .i64 3)), some (16, true), [18]⟩, ⟨some 20, .pick (.t 16) (.t 19) (.c (.bool false)), none, [16, 19]⟩, ⟨some 21, .mov (.t 20), none, [20]⟩, ⟨some 22, .fad 17 (.t 1), some (21, true), [1]⟩, ⟨some 23, .ld false 1 (.t 22), some (21, true), [22]⟩, ⟨some 24, .len true (.t 23), some (21, true), [23]⟩, ⟨some 25, .bin false .leq (.t 24) (.c (.int .i64 400)), some (21, true), [24]⟩, ⟨some 26, .pick (.t 21) (.t 25) (.c (.bool false)), none, [21, 25]⟩, ⟨some 2, .mov (.t 26), none, [26]⟩])
  .ret))))
def rs_22 : List ARes := [.tmp 2]
theorem ac_22_ok : compCode Try.prog (Try.f22.body.getD .skip) = some ac_22.plain := by kernel_rfl
theorem ac_22_chk : ac_22.chk ⟨Try.f22.ntmps, []⟩ = true := by kernel_rfl
theorem ac_22_pairs : ac_22.pairs.map Prod.fst = ac_22.pairs.map Prod.snd := by kernel_rfl
theorem rs_22_ok : Try.f22.results.toList.mapM (compRes Try.prog) = some rs_22 := by kernel_rfl
theorem ok_22 {Γ : Env} (hΓ : EnvOk Try.prog Γ) (sp : Spec) (h : ∀ args mem r mem1, sp args mem = some (r, mem1) → wpA Γ mem.length ac_22 (finQ mem.length rs_22 r mem1) (entry 0 args) mem) : CallOk Try.prog 22 sp :=
  ok_of_body (fn := Try.f22) (c := Try.f22.body.getD .skip) hΓ mix_ok (by kernel_rfl) (by kernel_rfl) ac_22_ok ⟨ac_22_chk, ac_22_pairs⟩ rs_22_ok (by kernel_rfl) sp h

/-- chantry/chantryref02.N -/
def ac_23 : ACode :=
 (.seq
  (.region false [] [⟨some 2, .alloc [.int .i64 0, .int .u64 0, .string ⟨#[]⟩, .int .u64 0], none, []⟩])
 (.seq
  (.region false [] [⟨some 3, .mov (.t 0), none, [0]⟩, ⟨some 4, .bld [.int .i64 0, .int .u64 0, .string ⟨#[]⟩, .int .u64 0] [(0, 1, .c (.int .i64 1)), (1, 1, .t 3)], none, [3]⟩, ⟨none, .st 4 (.t 2) (.t 4), none, [4]⟩])
 .ret))
def rs_23 : List ARes := [.cell 2 true 4]
theorem ac_23_ok : compCode Try.prog (Try.f23.body.getD .skip) = some ac_23.plain := by kernel_rfl
theorem ac_23_chk : ac_23.chk ⟨Try.f23.ntmps, []⟩ = true := by kernel_rfl
theorem ac_23_pairs : ac_23.pairs.map Prod.fst = ac_23.pairs.map Prod.snd := by kernel_rfl
theorem rs_23_ok : Try.f23.results.toList.mapM (compRes Try.prog) = some rs_23 := by kernel_rfl
theorem ok_23 {Γ : Env} (hΓ : EnvOk Try.prog Γ) (sp : Spec) (h : ∀ args mem r mem1, sp args mem = some (r, mem1) → wpA Γ mem.length ac_23 (finQ mem.length rs_23 r mem1) (entry 0 args) mem) : CallOk Try.prog 23 sp :=
  ok_of_body (fn := Try.f23) (c := Try.f23.body.getD .skip) hΓ mix_ok (by kernel_rfl) (by kernel_rfl) ac_23_ok ⟨ac_23_chk, ac_23_pairs⟩ rs_23_ok (by kernel_rfl) sp h

/-- chantry/chantryref02.T -/
def ac_24 : ACode :=
 (.seq
  (.region false [] [⟨some 2, .alloc [.int .i64 0, .int .u64 0, .string ⟨#[]⟩, .int .u64 0], none, []⟩])
 (.seq
  (.region false [] [⟨some 3, .mov (.t 0), none, [0]⟩, ⟨some 4, .bld [.int .i64 0, .int .u64 0, .string ⟨#[]⟩, .int .u64 0] [(0, 1, .c (.int .i64 2)), (2, 1, .t 3)], none, [3]⟩, ⟨none, .st 4 (.t 2) (.t 4), none, [4]⟩])
 .ret))
def rs_24 : List ARes := [.cell 2 true 4]
theorem ac_24_ok : compCode Try.prog (Try.f24.body.getD .skip) = some ac_24.plain := by kernel_rfl
theorem ac_24_chk : ac_24.chk ⟨Try.f24.ntmps, []⟩ = true := by kernel_rfl
theorem ac_24_pairs : ac_24.pairs.map Prod.fst = ac_24.pairs.map Prod.snd := by kernel_rfl
theorem rs_24_ok : Try.f24.results.toList.mapM (compRes Try.prog) = some rs_24 := by kernel_rfl
theorem ok_24 {Γ : Env} (hΓ : EnvOk Try.prog Γ) (sp : Spec) (h : ∀ args mem r mem1, sp args mem = some (r, mem1) → wpA Γ mem.length ac_24 (finQ mem.length rs_24 r mem1) (entry 0 args) mem) : CallOk Try.prog 24 sp :=
  ok_of_body (fn := Try.f24) (c := Try.f24.body.getD .skip) hΓ mix_ok (by kernel_rfl) (by kernel_rfl) ac_24_ok ⟨ac_24_chk, ac_24_pairs⟩ rs_24_ok (by kernel_rfl) sp h

/-- chantry/chantryref02.Encode -/
def ac_25 : ACode :=
 (.seq
  (.region false [] [⟨some 2, .mov (.c (.slice none 0 0)), none, []⟩, ⟨some 3, .mov (.c (.int .i64 0)), none, [2]⟩])
 (.seq
  (.seq
   (.region false [] [⟨some 4, .mov (.c (.int .i64 0)), none, []⟩])
  (.block 0
   (.loop [0, 4]
    (.seq
     (.seq
      (.region false [] [⟨some 6, .mov (.t 4), none, []⟩, ⟨some 7, .mov (.t 0), none, []⟩, ⟨some 8, .len false (.t 7), none, [7]⟩, ⟨some 9, .bin false .lss (.t 6) (.t 8), none, [6, 8]⟩])
     (.cond (.t 9)
       (.drop [9]
        .skip)
       (.drop [4, 9]
        (.exit 0))))
    (.seq
     (.block 1
      (.seq
       (.region false [] [⟨some 12, .mov (.t 0), none, []⟩, ⟨some 13, .mov (.t 4), none, []⟩, ⟨some 14, .iax 4 (.t 12) (.t 13), none, [12, 13]⟩, ⟨some 15, .ld true 4 (.t 14), none, [14]⟩, ⟨some 16, .call 34 [.t 15], none, [15]⟩, ⟨some 17, .un .not (.t 16), none, [16]⟩])
      (.cond (.t 17)
        (.drop [0, 4, 17]
         (.seq
          (.region false [] [⟨some 2, .mov (.c (.slice none 0 0)), none, []⟩, ⟨some 3, .mov (.c (.int .i64 2)), none, []⟩])
         .ret))
        (.drop [17]
         .skip))))
    (.region false [] [⟨some 10, .mov (.t 4), none, [4]⟩, ⟨some 11, .bin false .add (.t 10) (.c (.int .i64 1)), none, [10]⟩, ⟨some 4, .mov (.t 11), none, [11]⟩]))))))
 (.seq
  (.seq
   (.region false [] [⟨some 18, .mov (.t 0), none, []⟩, ⟨some 19, .len false (.t 18), none, [18]⟩, ⟨some 20, .bin false .gtr (.t 19) (.c (.int .i64 200)), none, [19]⟩])
  (.cond (.t 20)
    (.drop [0, 20]
     (.seq
      (.region false [] [⟨some 2, .mov (.c (.slice none 0 0)), none, []⟩, ⟨some 3, .mov (.c (.int .i64 3)), none, []⟩])
     .ret))
    (.drop [20]
     .skip)))
 (.seq
  (.region false [] [⟨some 21, .mov (.t 0), none, [0]⟩, ⟨some 22, .call 35 [.t 21], none, [21]⟩, ⟨some 5, .mov (.t 22), none, [22]⟩])
 (.seq
  (.seq
   (.region false [] [⟨some 23, .mov (.t 5), none, []⟩, ⟨some 24, .len false (.t 23), none, [23]⟩, ⟨some 25, .bin false .gtr (.t 24) (.c (.int .i64 8000)), none, [24]⟩])
  (.cond (.t 25)
    (.drop [5, 25]
     (.seq
      (.region false [] [⟨some 2, .mov (.c (.slice none 0 0)), none, []⟩, ⟨some 3, .mov (.c (.int .i64 3)), none, []⟩])
     .ret))
    (.drop [25]
     .skip)))
 (.seq
  (.region false [] [⟨some 26, .mov (.t 5), none, [5]⟩, ⟨some 2, .mov (.t 26), none, [26]⟩, ⟨some 3, .mov (.c (.int .i64 0)), none, []⟩])
 .ret))))))
def rs_25 : List ARes := [.tmp 2, .tmp 3]
theorem ac_25_ok : compCode Try.prog (Try.f25.body.getD .skip) = some ac_25.plain := by kernel_rfl
theorem ac_25_chk : ac_25.chk ⟨Try.f25.ntmps, []⟩ = true := by kernel_rfl
theorem ac_25_pairs : ac_25.pairs.map Prod.fst = ac_25.pairs.map Prod.snd := by kernel_rfl
theorem rs_25_ok : Try.f25.results.toList.mapM (compRes Try.prog) = some rs_25 := by kernel_rfl
theorem ok_25 {Γ : Env} (hΓ : EnvOk Try.prog Γ) (sp : Spec) (h : ∀ args mem r mem1, sp args mem = some (r, mem1) → wpA Γ mem.length ac_25 (finQ mem.length rs_25 r mem1) (entry 0 args) mem) : CallOk Try.prog 25 sp :=
  ok_of_body (fn := Try.f25) (c := Try.f25.body.getD .skip) hΓ mix_ok (by kernel_rfl) (by kernel_rfl) ac_25_ok ⟨ac_25_chk, ac_25_pairs⟩ rs_25_ok (by kernel_rfl) sp h

/-- chantry/pack.Is -/
def ac_27 : ACode :=
 (.seq
  (.region false [] [⟨some 4, .mov (.c (.bool false)), none, []⟩])
 (.seq
  (.seq
   (.region false [] [⟨some 7, .mov (.t 0), none, []⟩, ⟨some 8, .len false (.t 7), none, [7]⟩, ⟨some 9, .mov (.t 1), none, []⟩, ⟨some 10, .len false (.t 9), none, [9]⟩, ⟨some 11, .bin false .neq (.t 8) (.t 10), none, [8, 10]⟩])
  (.cond (.t 11)
    (.drop [0, 1, 11]
     (.seq
      (.region false [] [⟨some 4, .mov (.c (.bool false)), none, []⟩])
     .ret))
    (.drop [11]
     .skip)))
 (.seq
  (.seq
   (.region false [] [⟨some 12, .mov (.t 0), none, [0]⟩, ⟨some 13, .len false (.t 12), none, []⟩, ⟨some 14, .mov (.c (.int .i64 0)), none, []⟩])
  (.block 0
   (.loop [1, 12, 13, 14]
    (.seq
     (.region false [] [⟨some 15, .bin false .lss (.t 14) (.t 13), none, []⟩])
    (.seq
     (.cond (.t 15)
       (.drop [15]
        .skip)
       (.drop [1, 12, 13, 14, 15]
        (.exit 0)))
    (.seq
     (.block 1
      (.seq
       (.region false [] [⟨some 16, .mov (.t 14), none, []⟩, ⟨some 17, .iax 4 (.t 12) (.t 14), none, []⟩, ⟨some 18, .ld true 4 (.t 17), none, [17]⟩, ⟨some 6, .alloc [.int .i64 0, .int .u64 0, .string ⟨#[]⟩, .float .f64 0], none, []⟩, ⟨some 5, .mov (.t 16), none, [16]⟩, ⟨none, .st 4 (.t 6) (.t 18), none, [18]⟩])
      (.seal_ 6
       (.seq
        (.draws (.tak 0 ⟨some 19, .fad 0 (.t 6), none, []⟩ (.tak 1 ⟨some 20, .ld false 1 (.t 19), none, []⟩ (.tak 2 ⟨some 21, .mov (.t 1), none, []⟩ (.tak 3 ⟨some 22, .mov (.t 5), none, []⟩ (.tak 4 ⟨some 23, .iax 1 (.t 21) (.t 22), none, []⟩ (.tak 5 ⟨some 24, .ld false 1 (.t 23), none, []⟩ (.tak 6 ⟨some 25, .bin false .neq (.t 20) (.t 24), none, []⟩ .done))))))) [[], [0], [], [], [2, 3], [4], [1, 5]] [⟨some 19, .fad 0 (.t 6), none, []⟩, ⟨some 20, .ld false 1 (.t 19), none, []⟩, ⟨some 21, .mov (.t 1), none, []⟩, ⟨some 22, .mov (.t 5), none, []⟩, ⟨some 23, .iax 1 (.t 21) (.t 22), none, []⟩, ⟨some 24, .ld false 1 (.t 23), none, []⟩, ⟨some 25, .bin false .neq (.t 20) (.t 24), none, []⟩])
       (.drop [5, 6, 19, 20, 21, 22, 23, 24]
        (.cond (.t 25)
          (.drop [1, 12, 13, 14, 25]
           (.seq
            (.region false [] [⟨some 4, .mov (.c (.bool false)), none, []⟩])
           .ret))
          (.drop [25]
           .skip)))))))
    (.region false [] [⟨some 26, .bin false .add (.t 14) (.c (.int .i64 1)), none, [14]⟩, ⟨some 14, .mov (.t 26), none, [26]⟩])))))))
 (.seq
  (.region false [] [⟨some 4, .mov (.c (.bool true)), none, []⟩])
 .ret))))
def rs_27 : List ARes := [.tmp 4]
theorem ac_27_ok : compCode Try.prog (Try.f27.body.getD .skip) = some ac_27.plain := by kernel_rfl
theorem ac_27_chk : ac_27.chk ⟨Try.f27.ntmps, []⟩ = true := by kernel_rfl
theorem ac_27_pairs : ac_27.pairs.map Prod.fst = ac_27.pairs.map Prod.snd := by kernel_rfl
theorem rs_27_ok : Try.f27.results.toList.mapM (compRes Try.prog) = some rs_27 := by kernel_rfl
theorem ok_27 {Γ : Env} (hΓ : EnvOk Try.prog Γ) (sp : Spec) (h : ∀ args mem r mem1, sp args mem = some (r, mem1) → wpA Γ mem.length ac_27 (finQ mem.length rs_27 r mem1) (entry 0 args) mem) : CallOk Try.prog 27 sp :=
  ok_of_body (fn := Try.f27) (c := Try.f27.body.getD .skip) hΓ mix_ok (by kernel_rfl) (by kernel_rfl) ac_27_ok ⟨ac_27_chk, ac_27_pairs⟩ rs_27_ok (by kernel_rfl) sp h

/-- chantry/past.kinds -/
def ac_28 : ACode :=
 (.seq
  (.region false [] [⟨some 0, .mov (.c (.slice none 0 0)), none, []⟩])
 (.seq
  (.region false [] [⟨some 1, .mov (.c (.slice none 0 0)), none, []⟩])
 (.seq
  (.seq
   (.region false [] [⟨some 2, .mov (.c (.int .i64 0)), none, []⟩])
  (.block 0
   (.loop [1, 2]
    (.seq
     (.region false [] [⟨some 3, .bin false .lss (.t 2) (.c (.int .i64 17)), none, []⟩])
    (.seq
     (.cond (.t 3)
       (.drop [3]
        .skip)
       (.drop [2, 3]
        (.exit 0)))
    (.seq
     (.block 1
      (.region false [] [⟨some 4, .mov (.t 1), none, [1]⟩, ⟨some 5, .bsl 3 1 [.c (.int .i64 1)], none, []⟩, ⟨some 6, .app 3 1 8 (.t 4) (.t 5), none, [4, 5]⟩, ⟨some 1, .mov (.t 6), none, [6]⟩]))
    (.region false [] [⟨some 7, .bin false .add (.t 2) (.c (.int .i64 1)), none, [2]⟩, ⟨some 2, .mov (.t 7), none, [7]⟩])))))))
 (.seq
  (.region false [] [⟨some 8, .mov (.t 1), none, [1]⟩, ⟨some 9, .bsl 3 1 [.c (.int .i64 2)], none, []⟩, ⟨some 10, .app 3 1 8 (.t 8) (.t 9), none, [8, 9]⟩, ⟨some 0, .mov (.t 10), none, [10]⟩])
 .ret))))
def rs_28 : List ARes := [.tmp 0]
theorem ac_28_ok : compCode Try.prog (Try.f28.body.getD .skip) = some ac_28.plain := by kernel_rfl
theorem ac_28_chk : ac_28.chk ⟨Try.f28.ntmps, []⟩ = true := by kernel_rfl
theorem ac_28_pairs : ac_28.pairs.map Prod.fst = ac_28.pairs.map Prod.snd := by kernel_rfl
theorem rs_28_ok : Try.f28.results.toList.mapM (compRes Try.prog) = some rs_28 := by kernel_rfl
theorem ok_28 {Γ : Env} (hΓ : EnvOk Try.prog Γ) (sp : Spec) (h : ∀ args mem r mem1, sp args mem = some (r, mem1) → wpA Γ mem.length ac_28 (finQ mem.length rs_28 r mem1) (entry 0 args) mem) : CallOk Try.prog 28 sp :=
  ok_of_body (fn := Try.f28) (c := Try.f28.body.getD .skip) hΓ mix_ok (by kernel_rfl) (by kernel_rfl) ac_28_ok ⟨ac_28_chk, ac_28_pairs⟩ rs_28_ok (by kernel_rfl) sp h

/-- chantry/chantryref02.Decode -/
def ac_29 : ACode :=
 (.seq
  (.region false [] [⟨some 2, .mov (.c (.slice none 0 0)), none, []⟩, ⟨some 3, .mov (.c (.int .i64 0)), none, [2]⟩])
 (.seq
  (.seq
   (.region false [] [⟨some 11, .mov (.t 0), none, []⟩, ⟨some 12, .len false (.t 11), none, [11]⟩, ⟨some 13, .bin false .eql (.t 12) (.c (.int .i64 0)), none, [12]⟩, ⟨some 14, .mov (.t 13), none, [13]⟩, ⟨some 15, .mov (.t 0), some (14, false), []⟩, ⟨some 16, .len false (.t 15), some (14, false), [15]⟩, ⟨some 17, .bin false .gtr (.t 16) (.c (.int .i64 8000)), some (14, false), [16]⟩, ⟨some 18, .pick (.t 14) (.c (.bool true)) (.t 17), none, [14, 17]⟩])
  (.cond (.t 18)
    (.drop [0, 18]
     (.seq
      (.region false [] [⟨some 2, .mov (.c (.slice none 0 0)), none, []⟩, ⟨some 3, .mov (.c (.int .i64 4)), none, []⟩])
     .ret))
    (.drop [18]
     .skip)))
 (.seq
  (.region false [] [⟨some 4, .mov (.c (.slice none 0 0)), none, []⟩])
 (.seq
  (.region false [] [⟨some 5, .mov (.c (.int .i64 1)), none, []⟩])
 (.seq
  (.seq
   (.region false [] [⟨some 6, .mov (.c (.int .i64 0)), none, []⟩])
  (.block 0
   (.loop [0, 4, 5, 6]
    (.seq
     (.seq
      (.region false [] [⟨some 19, .mov (.t 6), none, []⟩, ⟨some 20, .mov (.t 0), none, []⟩, ⟨some 21, .iax 1 (.t 20) (.c (.int .i64 0)), none, [20]⟩, ⟨some 22, .ld false 1 (.t 21), none, [21]⟩, ⟨some 23, .cvt .i64 (.t 22), none, [22]⟩, ⟨some 24, .bin false .lss (.t 19) (.t 23), none, [19, 23]⟩, ⟨some 25, .mov (.t 24), none, [24]⟩, ⟨some 26, .mov (.t 5), some (25, true), []⟩, ⟨some 27, .mov (.t 0), some (25, true), []⟩, ⟨some 28, .len false (.t 27), some (25, true), [27]⟩, ⟨some 29, .bin false .lss (.t 26) (.t 28), some (25, true), [26, 28]⟩, ⟨some 30, .pick (.t 25) (.t 29) (.c (.bool false)), none, [25, 29]⟩])
     (.cond (.t 30)
       (.drop [30]
        .skip)
       (.drop [5, 6, 30]
        (.exit 0))))
    (.seq
     (.block 1
      (.seq
       (.region false [] [⟨some 34, .mov (.t 0), none, []⟩, ⟨some 35, .mov (.t 5), none, []⟩, ⟨some 36, .call 39 [.t 34, .t 35], none, [34, 35]⟩, ⟨some 33, .mov (.t 36), none, [36]⟩, ⟨some 37, .ext 0 (.t 33), none, []⟩, ⟨some 38, .ext 1 (.t 33), none, [33]⟩, ⟨some 7, .alloc [.int .i64 0, .int .u64 0, .string ⟨#[]⟩, .int .u64 0], none, []⟩, ⟨none, .st 4 (.t 7) (.t 37), none, [37]⟩, ⟨some 8, .mov (.t 38), none, [38]⟩])
      (.seal_ 7
       (.seq
        (.region false [] [⟨some 39, .mov (.t 4), none, [4]⟩, ⟨some 40, .ld true 4 (.t 7), none, [7]⟩, ⟨some 41, .bsl 57 4 [.t 40], none, [40]⟩, ⟨some 42, .app 57 4 40 (.t 39) (.t 41), none, [39, 41]⟩, ⟨some 4, .mov (.t 42), none, [42]⟩])
       (.region false [] [⟨some 43, .mov (.t 5), none, [5]⟩, ⟨some 44, .mov (.t 8), none, [8]⟩, ⟨some 45, .bin false .add (.t 43) (.t 44), none, [43, 44]⟩, ⟨some 5, .mov (.t 45), none, [45]⟩])))))
    (.region false [] [⟨some 31, .mov (.t 6), none, [6]⟩, ⟨some 32, .bin false .add (.t 31) (.c (.int .i64 1)), none, [31]⟩, ⟨some 6, .mov (.t 32), none, [32]⟩]))))))
 (.seq
  (.region false [] [⟨some 47, .mov (.t 4), none, []⟩, ⟨some 48, .call 25 [.t 47], none, [47]⟩, ⟨some 46, .mov (.t 48), none, [48]⟩, ⟨some 49, .ext 0 (.t 46), none, []⟩, ⟨some 50, .ext 1 (.t 46), none, [46]⟩, ⟨some 9, .mov (.t 49), none, [49]⟩, ⟨some 10, .mov (.t 50), none, [50]⟩])
 (.seq
  (.seq
   (.region false [] [⟨some 51, .mov (.t 10), none, [10]⟩, ⟨some 52, .bin false .neq (.t 51) (.c (.int .i64 0)), none, [51]⟩, ⟨some 53, .mov (.t 52), none, [52]⟩, ⟨some 54, .mov (.t 9), some (53, false), [9]⟩, ⟨some 55, .b2s (.t 54), some (53, false), [54]⟩, ⟨some 56, .mov (.t 0), some (53, false), [0]⟩, ⟨some 57, .b2s (.t 56), some (53, false), [56]⟩, ⟨some 58, .bin false .neq (.t 55) (.t 57), some (53, false), [55, 57]⟩, ⟨some 59, .pick (.t 53) (.c (.bool true)) (.t 58), none, [53, 58]⟩])
  (.cond (.t 59)
    (.drop [4, 59]
     (.seq
      (.region false [] [⟨some 2, .mov (.c (.slice none 0 0)), none, []⟩, ⟨some 3, .mov (.c (.int .i64 4)), none, []⟩])
     .ret))
    (.drop [59]
     .skip)))
 (.seq
  (.region false [] [⟨some 60, .mov (.t 4), none, [4]⟩, ⟨some 2, .mov (.t 60), none, [60]⟩, ⟨some 3, .mov (.c (.int .i64 0)), none, []⟩])
 .ret))))))))
def rs_29 : List ARes := [.tmp 2, .tmp 3]
theorem ac_29_ok : compCode Try.prog (Try.f29.body.getD .skip) = some ac_29.plain := by kernel_rfl
theorem ac_29_chk : ac_29.chk ⟨Try.f29.ntmps, []⟩ = true := by kernel_rfl
theorem ac_29_pairs : ac_29.pairs.map Prod.fst = ac_29.pairs.map Prod.snd := by kernel_rfl
theorem rs_29_ok : Try.f29.results.toList.mapM (compRes Try.prog) = some rs_29 := by kernel_rfl
theorem ok_29 {Γ : Env} (hΓ : EnvOk Try.prog Γ) (sp : Spec) (h : ∀ args mem r mem1, sp args mem = some (r, mem1) → wpA Γ mem.length ac_29 (finQ mem.length rs_29 r mem1) (entry 0 args) mem) : CallOk Try.prog 29 sp :=
  ok_of_body (fn := Try.f29) (c := Try.f29.body.getD .skip) hΓ mix_ok (by kernel_rfl) (by kernel_rfl) ac_29_ok ⟨ac_29_chk, ac_29_pairs⟩ rs_29_ok (by kernel_rfl) sp h

/-- (chantry/pack.Field).may -/
def ac_30 : ACode :=
 (.seq
  (.region false [] [⟨some 1, .box (.t 0), none, [0]⟩, ⟨some 2, .mov (.c (.bool false)), none, []⟩])
 (.seal_ 1
  (.seq
   (.region false [] [⟨some 4, .fad 3 (.t 1), none, []⟩, ⟨some 5, .ld false 1 (.t 4), none, [4]⟩, ⟨some 6, .call 40 [.t 5], none, [5]⟩, ⟨some 3, .mov (.t 6), none, [6]⟩])
  (.seq
   (.seq
    (.region false [] [⟨some 7, .fad 0 (.t 1), none, []⟩, ⟨some 8, .ld false 1 (.t 7), none, [7]⟩])
   (.block 0
    (.seq
     (.region false [] [⟨some 10, .bin false .eql (.t 8) (.c (.int .i64 1)), none, []⟩, ⟨some 9, .mov (.t 10), none, [10]⟩])
    (.cond (.t 9)
      (.drop [8, 9]
       (.seq
        (.region false [] [⟨some 11, .fad 2 (.t 1), none, [1]⟩, ⟨some 12, .ld false 1 (.t 11), none, [11]⟩, ⟨some 13, .bin false .eql (.t 12) (.c (.string ⟨#[]⟩)), none, [12]⟩, ⟨some 14, .mov (.t 13), none, [13]⟩, ⟨some 15, .mov (.t 3), some (14, true), [3]⟩, ⟨some 16, .bin false .eql (.t 15) (.c (.int .u64 0)), some (14, true), [15]⟩, ⟨some 17, .pick (.t 14) (.t 16) (.c (.bool false)), none, [14, 16]⟩, ⟨some 2, .mov (.t 17), none, [17]⟩])
       .ret))
      (.drop [9]
       (.seq
        (.region false [] [⟨some 19, .bin false .eql (.t 8) (.c (.int .i64 2)), none, []⟩, ⟨some 18, .mov (.t 19), none, [19]⟩])
       (.cond (.t 18)
         (.drop [8, 18]
          (.seq
           (.region false [] [⟨some 20, .fad 1 (.t 1), none, []⟩, ⟨some 21, .ld false 1 (.t 20), none, [20]⟩, ⟨some 22, .bin false .eql (.t 21) (.c (.int .u64 0)), none, [21]⟩, ⟨some 23, .mov (.t 22), none, [22]⟩, ⟨some 24, .mov (.t 3), some (23, true), [3]⟩, ⟨some 25, .bin false .eql (.t 24) (.c (.int .u64 0)), some (23, true), [24]⟩, ⟨some 26, .pick (.t 23) (.t 25) (.c (.bool false)), none, [23, 25]⟩, ⟨some 27, .mov (.t 26), none, [26]⟩, ⟨some 28, .fad 2 (.t 1), some (27, true), [1]⟩, ⟨some 29, .ld false 1 (.t 28), some (27, true), [28]⟩, ⟨some 30, .len true (.t 29), some (27, true), [29]⟩, ⟨some 31, .bin false .leq (.t 30) (.c (.int .i64 2000)), some (27, true), [30]⟩, ⟨some 32, .pick (.t 27) (.t 31) (.c (.bool false)), none, [27, 31]⟩, ⟨some 2, .mov (.t 32), none, [32]⟩])
          .ret))
         (.drop [18]
          (.seq
           (.region false [] [⟨some 34, .bin false .eql (.t 8) (.c (.int .i64 3)), none, [8]⟩, ⟨some 33, .mov (.t 34), none, [34]⟩])
          (.cond (.t 33)
            (.drop [33]
             (.seq
              (.region false [] [⟨some 35, .fad 1 (.t 1), none, []⟩, ⟨some 36, .ld false 1 (.t 35), none, [35]⟩, ⟨some 37, .bin false .eql (.t 36) (.c (.int .u64 0)), none, [36]⟩, ⟨some 38, .mov (.t 37), none, [37]⟩, ⟨some 39, .fad 2 (.t 1), some (38, true), []⟩, ⟨some 40, .ld false 1 (.t 39), some (38, true), [39]⟩, ⟨some 41, .bin false .eql (.t 40) (.c (.string ⟨#[]⟩)), some (38, true), [40]⟩, ⟨some 42, .pick (.t 38) (.t 41) (.c (.bool false)), none, [38, 41]⟩, ⟨some 43, .mov (.t 42), none, [42]⟩, ⟨some 44, .fad 3 (.t 1), some (43, true), [1]⟩, ⟨some 45, .ld false 1 (.t 44), some (43, true), [44]⟩, ⟨some 46, .call 41 [.t 45], some (43, true), [45]⟩, ⟨some 47, .call 40 [.t 46], some (43, true), [46]⟩, ⟨some 48, .mov (.t 3), some (43, true), [3]⟩, ⟨some 49, .bin false .eql (.t 47) (.t 48), some (43, true), [47, 48]⟩, ⟨some 50, .pick (.t 43) (.t 49) (.c (.bool false)), none, [43, 49]⟩, ⟨some 2, .mov (.t 50), none, [50]⟩])
             .ret))
            (.drop [1, 3, 33]
             .skip)))))))))))
  (.seq
   (.region false [] [⟨some 2, .mov (.c (.bool false)), none, []⟩])
  .ret)))))
def rs_30 : List ARes := [.tmp 2]
theorem ac_30_ok : compCode Try.prog (Try.f30.body.getD .skip) = some ac_30.plain := by kernel_rfl
theorem ac_30_chk : ac_30.chk ⟨Try.f30.ntmps, []⟩ = true := by kernel_rfl
theorem ac_30_pairs : ac_30.pairs.map Prod.fst = ac_30.pairs.map Prod.snd := by kernel_rfl
theorem rs_30_ok : Try.f30.results.toList.mapM (compRes Try.prog) = some rs_30 := by kernel_rfl
theorem ok_30 {Γ : Env} (hΓ : EnvOk Try.prog Γ) (sp : Spec) (h : ∀ args mem r mem1, sp args mem = some (r, mem1) → wpA Γ mem.length ac_30 (finQ mem.length rs_30 r mem1) (entry 0 args) mem) : CallOk Try.prog 30 sp :=
  ok_of_body (fn := Try.f30) (c := Try.f30.body.getD .skip) hΓ mix_ok (by kernel_rfl) (by kernel_rfl) ac_30_ok ⟨ac_30_chk, ac_30_pairs⟩ rs_30_ok (by kernel_rfl) sp h

/-- chantry/pack.number -/
def ac_31 : ACode :=
 (.seq
  (.region false [] [⟨some 4, .mov (.c (.slice none 0 0)), none, []⟩])
 (.seq
  (.region false [] [⟨some 6, .mov (.t 1), none, []⟩, ⟨some 7, .call 42 [.t 6], none, [6]⟩, ⟨some 8, .bin false .add (.t 7) (.c (.int .i64 7)), none, [7]⟩, ⟨some 9, .bin false .quo (.t 8) (.c (.int .i64 8)), none, [8]⟩, ⟨some 5, .mov (.t 9), none, [9]⟩])
 (.seq
  (.region false [] [⟨some 10, .mov (.t 0), none, [0]⟩, ⟨some 11, .mov (.t 5), none, []⟩, ⟨some 12, .cvt .u8 (.t 11), none, [11]⟩, ⟨some 13, .bsl 5 1 [.t 12], none, [12]⟩, ⟨some 14, .app 5 1 1 (.t 10) (.t 13), none, [10, 13]⟩, ⟨some 15, .mov (.t 1), none, [1]⟩, ⟨some 16, .mov (.t 5), none, [5]⟩, ⟨some 17, .call 32 [.t 14, .t 15, .t 16], none, [14, 15, 16]⟩, ⟨some 4, .mov (.t 17), none, [17]⟩])
 .ret)))
def rs_31 : List ARes := [.tmp 4]
theorem ac_31_ok : compCode Try.prog (Try.f31.body.getD .skip) = some ac_31.plain := by kernel_rfl
theorem ac_31_chk : ac_31.chk ⟨Try.f31.ntmps, []⟩ = true := by kernel_rfl
theorem ac_31_pairs : ac_31.pairs.map Prod.fst = ac_31.pairs.map Prod.snd := by kernel_rfl
theorem rs_31_ok : Try.f31.results.toList.mapM (compRes Try.prog) = some rs_31 := by kernel_rfl
theorem ok_31 {Γ : Env} (hΓ : EnvOk Try.prog Γ) (sp : Spec) (h : ∀ args mem r mem1, sp args mem = some (r, mem1) → wpA Γ mem.length ac_31 (finQ mem.length rs_31 r mem1) (entry 0 args) mem) : CallOk Try.prog 31 sp :=
  ok_of_body (fn := Try.f31) (c := Try.f31.body.getD .skip) hΓ mix_ok (by kernel_rfl) (by kernel_rfl) ac_31_ok ⟨ac_31_chk, ac_31_pairs⟩ rs_31_ok (by kernel_rfl) sp h

/-- chantry/pack.low -/
def ac_32 : ACode :=
 (.seq
  (.region false [] [⟨some 6, .mov (.c (.slice none 0 0)), none, []⟩])
 (.seq
  (.seq
   (.region false [] [⟨some 7, .mov (.t 2), none, [2]⟩, ⟨some 8, .mov (.c (.int .i64 0)), none, []⟩])
  (.block 0
   (.loop [0, 1, 7, 8]
    (.seq
     (.region false [] [⟨some 9, .bin false .lss (.t 8) (.t 7), none, []⟩])
    (.seq
     (.cond (.t 9)
       (.drop [9]
        .skip)
       (.drop [1, 7, 8, 9]
        (.exit 0)))
    (.seq
     (.block 1
      (.seq
       (.region false [] [⟨some 10, .mov (.t 0), none, [0]⟩, ⟨some 11, .mov (.t 1), none, []⟩, ⟨some 12, .cvt .u8 (.t 11), none, [11]⟩, ⟨some 13, .bsl 5 1 [.t 12], none, [12]⟩, ⟨some 14, .app 5 1 1 (.t 10) (.t 13), none, [10, 13]⟩, ⟨some 0, .mov (.t 14), none, [14]⟩])
      (.region false [] [⟨some 15, .mov (.t 1), none, [1]⟩, ⟨some 16, .bin false .shr (.t 15) (.c (.int .u64 8)), none, [15]⟩, ⟨some 1, .mov (.t 16), none, [16]⟩])))
    (.region false [] [⟨some 17, .bin false .add (.t 8) (.c (.int .i64 1)), none, [8]⟩, ⟨some 8, .mov (.t 17), none, [17]⟩])))))))
 (.seq
  (.region false [] [⟨some 18, .mov (.t 0), none, [0]⟩, ⟨some 6, .mov (.t 18), none, [18]⟩])
 .ret)))
def rs_32 : List ARes := [.tmp 6]
theorem ac_32_ok : compCode Try.prog (Try.f32.body.getD .skip) = some ac_32.plain := by kernel_rfl
theorem ac_32_chk : ac_32.chk ⟨Try.f32.ntmps, []⟩ = true := by kernel_rfl
theorem ac_32_pairs : ac_32.pairs.map Prod.fst = ac_32.pairs.map Prod.snd := by kernel_rfl
theorem rs_32_ok : Try.f32.results.toList.mapM (compRes Try.prog) = some rs_32 := by kernel_rfl
theorem ok_32 {Γ : Env} (hΓ : EnvOk Try.prog Γ) (sp : Spec) (h : ∀ args mem r mem1, sp args mem = some (r, mem1) → wpA Γ mem.length ac_32 (finQ mem.length rs_32 r mem1) (entry 0 args) mem) : CallOk Try.prog 32 sp :=
  ok_of_body (fn := Try.f32) (c := Try.f32.body.getD .skip) hΓ mix_ok (by kernel_rfl) (by kernel_rfl) ac_32_ok ⟨ac_32_chk, ac_32_pairs⟩ rs_32_ok (by kernel_rfl) sp h

/-- chantry/real.Code -/
def ac_33 : ACode :=
 (.seq
  (.region false [] [⟨some 2, .mov (.c (.int .u64 0)), none, []⟩])
 (.seq
  (.region false [] [⟨some 4, .mov (.t 0), none, [0]⟩, ⟨some 5, .call 41 [.t 4], none, [4]⟩, ⟨some 6, .call 40 [.t 5], none, [5]⟩, ⟨some 3, .mov (.t 6), none, [6]⟩])
 (.seq
  (.seq
   (.region false [] [⟨some 7, .mov (.t 3), none, []⟩, ⟨some 8, .bin false .and (.t 7) (.c (.int .u64 9223372036854775808)), none, [7]⟩, ⟨some 9, .bin false .neq (.t 8) (.c (.int .u64 0)), none, [8]⟩])
  (.cond (.t 9)
    (.drop [9]
     (.seq
      (.region false [] [⟨some 10, .mov (.t 3), none, [3]⟩, ⟨some 11, .un .xor (.t 10), none, [10]⟩, ⟨some 2, .mov (.t 11), none, [11]⟩])
     .ret))
    (.drop [9]
     .skip)))
 (.seq
  (.region false [] [⟨some 12, .mov (.t 3), none, [3]⟩, ⟨some 13, .bin false .or (.t 12) (.c (.int .u64 9223372036854775808)), none, [12]⟩, ⟨some 2, .mov (.t 13), none, [13]⟩])
 .ret))))
def rs_33 : List ARes := [.tmp 2]
theorem ac_33_ok : compCode Try.prog (Try.f33.body.getD .skip) = some ac_33.plain := by kernel_rfl
theorem ac_33_chk : ac_33.chk ⟨Try.f33.ntmps, []⟩ = true := by kernel_rfl
theorem ac_33_pairs : ac_33.pairs.map Prod.fst = ac_33.pairs.map Prod.snd := by kernel_rfl
theorem rs_33_ok : Try.f33.results.toList.mapM (compRes Try.prog) = some rs_33 := by kernel_rfl
theorem ok_33 {Γ : Env} (hΓ : EnvOk Try.prog Γ) (sp : Spec) (h : ∀ args mem r mem1, sp args mem = some (r, mem1) → wpA Γ mem.length ac_33 (finQ mem.length rs_33 r mem1) (entry 0 args) mem) : CallOk Try.prog 33 sp :=
  ok_of_body (fn := Try.f33) (c := Try.f33.body.getD .skip) hΓ mix_ok (by kernel_rfl) (by kernel_rfl) ac_33_ok ⟨ac_33_chk, ac_33_pairs⟩ rs_33_ok (by kernel_rfl) sp h

/-- chantry/chantryref02.May -/
def ac_34 : ACode :=
 (.seq
  (.region false [] [⟨some 1, .box (.t 0), none, [0]⟩, ⟨some 2, .mov (.c (.bool false)), none, []⟩])
 (.seal_ 1
  (.seq
   (.seq
    (.region false [] [⟨some 3, .fad 0 (.t 1), none, []⟩, ⟨some 4, .ld false 1 (.t 3), none, [3]⟩])
   (.block 0
    (.seq
     (.region false [] [⟨some 6, .bin false .eql (.t 4) (.c (.int .i64 1)), none, []⟩, ⟨some 5, .mov (.t 6), none, [6]⟩])
    (.cond (.t 5)
      (.drop [4, 5]
       (.seq
        (.region false [] [⟨some 7, .fad 2 (.t 1), none, []⟩, ⟨some 8, .ld false 1 (.t 7), none, [7]⟩, ⟨some 9, .bin false .eql (.t 8) (.c (.string ⟨#[]⟩)), none, [8]⟩, ⟨some 10, .mov (.t 9), none, [9]⟩, ⟨some 11, .fad 3 (.t 1), some (10, true), [1]⟩, ⟨some 12, .ld false 1 (.t 11), some (10, true), [11]⟩, ⟨some 13, .bin false .eql (.t 12) (.c (.int .u64 0)), some (10, true), [12]⟩, ⟨some 14, .pick (.t 10) (.t 13) (.c (.bool false)), none, [10, 13]⟩, ⟨some 2, .mov (.t 14), none, [14]⟩])
       .ret))
      (.drop [5]
       (.seq
        (.region false [] [⟨some 16, .bin false .eql (.t 4) (.c (.int .i64 2)), none, []⟩, ⟨some 15, .mov (.t 16), none, [16]⟩])
       (.cond (.t 15)
         (.drop [4, 15]
          (.seq
           (.region false [] [⟨some 17, .fad 1 (.t 1), none, []⟩, ⟨some 18, .ld false 1 (.t 17), none, [17]⟩, ⟨some 19, .bin false .eql (.t 18) (.c (.int .u64 0)), none, [18]⟩, ⟨some 20, .mov (.t 19), none, [19]⟩, ⟨some 21, .fad 3 (.t 1), some (20, true), []⟩, ⟨some 22, .ld false 1 (.t 21), some (20, true), [21]⟩, ⟨some 23, .bin false .eql (.t 22) (.c (.int .u64 0)), some (20, true), [22]⟩, ⟨some 24, .pick (.t 20) (.t 23) (.c (.bool false)), none, [20, 23]⟩, ⟨some 25, .mov (.t 24), none, [24]⟩, ⟨some 26, .fad 2 (.t 1), some (25, true), [1]⟩, ⟨some 27, .ld false 1 (.t 26), some (25, true), [26]⟩, ⟨some 28, .len true (.t 27), some (25, true), [27]⟩, ⟨some 29, .bin false .leq (.t 28) (.c (.int .i64 2000)), some (25, true), [28]⟩, ⟨some 30, .pick (.t 25) (.t 29) (.c (.bool false)), none, [25, 29]⟩, ⟨some 2, .mov (.t 30), none, [30]⟩])
          .ret))
         (.drop [15]
          (.seq
           (.region false [] [⟨some 32, .bin false .eql (.t 4) (.c (.int .i64 3)), none, [4]⟩, ⟨some 31, .mov (.t 32), none, [32]⟩])
          (.cond (.t 31)
            (.drop [31]
             (.seq
              (.draws (.tak 0 ⟨some 33, .fad 1 (.t 1), none, []⟩ (.tak 1 ⟨some 34, .ld false 1 (.t 33), none, []⟩ (.tak 2 ⟨some 35, .bin false .eql (.t 34) (.c (.int .u64 0)), none, []⟩ (.tak 3 ⟨some 36, .mov (.t 35), none, []⟩ (.tak 4 ⟨some 37, .fad 2 (.t 1), some (36, true), []⟩ (.tak 5 ⟨some 38, .ld false 1 (.t 37), some (36, true), []⟩ (.tak 6 ⟨some 39, .bin false .eql (.t 38) (.c (.string ⟨#[]⟩)), some (36, true), []⟩ (.tak 7 ⟨some 40, .pick (.t 36) (.t 39) (.c (.bool false)), none, []⟩ (.tak 8 ⟨some 41, .mov (.t 40), none, []⟩ (.tak 9 ⟨some 42, .fad 3 (.t 1), some (41, true), []⟩ (.tak 10 ⟨some 43, .ld false 1 (.t 42), some (41, true), []⟩ (.tak 12 ⟨some 45, .fad 3 (.t 1), some (41, true), []⟩ (.tak 13 ⟨some 46, .ld false 1 (.t 45), some (41, true), []⟩ (.alt 11 ⟨some 44, .call 43 [.t 43], some (41, true), []⟩ (.tak 14 ⟨some 47, .bin false .eql (.t 44) (.t 46), some (41, true), []⟩ (.tak 15 ⟨some 48, .pick (.t 41) (.t 47) (.c (.bool false)), none, []⟩ (.tak 16 ⟨some 2, .mov (.t 48), none, []⟩ .done))) .stop)))))))))))))) [[], [0], [1], [2], [3], [4, 3], [5, 3], [3, 6], [7, 3], [8], [9, 8], [10, 8, 8], [8], [12, 8], [11, 13, 8], [8, 14], [15, 11, 0, 1, 2, 3, 4, 5, 6, 7, 8, 9, 10, 11, 12, 13, 14, 15]] [⟨some 33, .fad 1 (.t 1), none, []⟩, ⟨some 34, .ld false 1 (.t 33), none, []⟩, ⟨some 35, .bin false .eql (.t 34) (.c (.int .u64 0)), none, []⟩, ⟨some 36, .mov (.t 35), none, []⟩, ⟨some 37, .fad 2 (.t 1), some (36, true), []⟩, ⟨some 38, .ld false 1 (.t 37), some (36, true), []⟩, ⟨some 39, .bin false .eql (.t 38) (.c (.string ⟨#[]⟩)), some (36, true), []⟩, ⟨some 40, .pick (.t 36) (.t 39) (.c (.bool false)), none, []⟩, ⟨some 41, .mov (.t 40), none, []⟩, ⟨some 42, .fad 3 (.t 1), some (41, true), []⟩, ⟨some 43, .ld false 1 (.t 42), some (41, true), []⟩, ⟨some 44, .call 43 [.t 43], some (41, true), []⟩, ⟨some 45, .fad 3 (.t 1), some (41, true), []⟩, ⟨some 46, .ld false 1 (.t 45), some (41, true), []⟩, ⟨some 47, .bin false .eql (.t 44) (.t 46), some (41, true), []⟩, ⟨some 48, .pick (.t 41) (.t 47) (.c (.bool false)), none, []⟩, ⟨some 2, .mov (.t 48), none, []⟩])
             (.drop [1, 33, 34, 35, 36, 37, 38, 39, 40, 41, 42, 43, 44, 45, 46, 47, 48]
              .ret)))
            (.drop [1, 31]
             .skip)))))))))))
  (.seq
   (.region false [] [⟨some 2, .mov (.c (.bool false)), none, []⟩])
  .ret))))
def rs_34 : List ARes := [.tmp 2]
theorem ac_34_ok : compCode Try.prog (Try.f34.body.getD .skip) = some ac_34.plain := by kernel_rfl
theorem ac_34_chk : ac_34.chk ⟨Try.f34.ntmps, []⟩ = true := by kernel_rfl
theorem ac_34_pairs : ac_34.pairs.map Prod.fst = ac_34.pairs.map Prod.snd := by kernel_rfl
theorem rs_34_ok : Try.f34.results.toList.mapM (compRes Try.prog) = some rs_34 := by kernel_rfl
theorem ok_34 {Γ : Env} (hΓ : EnvOk Try.prog Γ) (sp : Spec) (h : ∀ args mem r mem1, sp args mem = some (r, mem1) → wpA Γ mem.length ac_34 (finQ mem.length rs_34 r mem1) (entry 0 args) mem) : CallOk Try.prog 34 sp :=
  ok_of_body (fn := Try.f34) (c := Try.f34.body.getD .skip) hΓ mix_ok (by kernel_rfl) (by kernel_rfl) ac_34_ok ⟨ac_34_chk, ac_34_pairs⟩ rs_34_ok (by kernel_rfl) sp h

/-- chantry/chantryref02.all -/
def ac_35 : ACode :=
 (.seq
  (.region false [] [⟨some 2, .mov (.c (.slice none 0 0)), none, []⟩])
 (.seq
  (.region false [] [⟨some 5, .mov (.t 0), none, []⟩, ⟨some 6, .len false (.t 5), none, [5]⟩, ⟨some 7, .cvt .u8 (.t 6), none, [6]⟩, ⟨some 8, .bsl 5 1 [.t 7], none, [7]⟩, ⟨some 3, .mov (.t 8), none, [8]⟩])
 (.seq
  (.seq
   (.region false [] [⟨some 4, .mov (.c (.int .i64 0)), none, []⟩])
  (.block 0
   (.loop [0, 3, 4]
    (.seq
     (.seq
      (.region false [] [⟨some 9, .mov (.t 4), none, []⟩, ⟨some 10, .mov (.t 0), none, []⟩, ⟨some 11, .len false (.t 10), none, [10]⟩, ⟨some 12, .bin false .lss (.t 9) (.t 11), none, [9, 11]⟩])
     (.cond (.t 12)
       (.drop [12]
        .skip)
       (.drop [0, 4, 12]
        (.exit 0))))
    (.seq
     (.block 1
      (.region false [] [⟨some 15, .mov (.t 3), none, [3]⟩, ⟨some 16, .mov (.t 0), none, []⟩, ⟨some 17, .mov (.t 4), none, []⟩, ⟨some 18, .iax 4 (.t 16) (.t 17), none, [16, 17]⟩, ⟨some 19, .ld true 4 (.t 18), none, [18]⟩, ⟨some 20, .call 44 [.t 19], none, [19]⟩, ⟨some 21, .app 5 1 1 (.t 15) (.t 20), none, [15, 20]⟩, ⟨some 3, .mov (.t 21), none, [21]⟩]))
    (.region false [] [⟨some 13, .mov (.t 4), none, [4]⟩, ⟨some 14, .bin false .add (.t 13) (.c (.int .i64 1)), none, [13]⟩, ⟨some 4, .mov (.t 14), none, [14]⟩]))))))
 (.seq
  (.region false [] [⟨some 22, .mov (.t 3), none, [3]⟩, ⟨some 2, .mov (.t 22), none, [22]⟩])
 .ret))))
def rs_35 : List ARes := [.tmp 2]
theorem ac_35_ok : compCode Try.prog (Try.f35.body.getD .skip) = some ac_35.plain := by kernel_rfl
theorem ac_35_chk : ac_35.chk ⟨Try.f35.ntmps, []⟩ = true := by kernel_rfl
theorem ac_35_pairs : ac_35.pairs.map Prod.fst = ac_35.pairs.map Prod.snd := by kernel_rfl
theorem rs_35_ok : Try.f35.results.toList.mapM (compRes Try.prog) = some rs_35 := by kernel_rfl
theorem ok_35 {Γ : Env} (hΓ : EnvOk Try.prog Γ) (sp : Spec) (h : ∀ args mem r mem1, sp args mem = some (r, mem1) → wpA Γ mem.length ac_35 (finQ mem.length rs_35 r mem1) (entry 0 args) mem) : CallOk Try.prog 35 sp :=
  ok_of_body (fn := Try.f35) (c := Try.f35.body.getD .skip) hΓ mix_ok (by kernel_rfl) (by kernel_rfl) ac_35_ok ⟨ac_35_chk, ac_35_pairs⟩ rs_35_ok (by kernel_rfl) sp h

/-- (*chantry/pack.reader).take -/
def ac_37 : ACode :=
 (.seq
  (.region false [] [⟨some 4, .mov (.c (.slice none 0 0)), none, []⟩])
 (.seq
  (.seq
   (.region false [] [⟨some 6, .mov (.t 1), none, []⟩, ⟨some 7, .mov (.t 0), none, []⟩, ⟨some 8, .chk (.t 7), none, [7]⟩, ⟨some 9, .fad 0 (.t 8), none, [8]⟩, ⟨some 10, .ld false 1 (.t 9), none, [9]⟩, ⟨some 11, .len false (.t 10), none, [10]⟩, ⟨some 12, .bin false .gtr (.t 6) (.t 11), none, [6, 11]⟩])
  (.cond (.t 12)
    (.drop [12]
     (.region false [] [⟨some 13, .bld [] [], none, []⟩, ⟨some 14, .mki 76 (.t 13), none, [13]⟩, ⟨none, .pan (.t 14), none, [14]⟩]))
    (.drop [12]
     .skip)))
 (.seq
  (.region false [] [⟨some 15, .mov (.t 0), none, []⟩, ⟨some 16, .chk (.t 15), none, [15]⟩, ⟨some 17, .fad 0 (.t 16), none, [16]⟩, ⟨some 18, .ld false 1 (.t 17), none, [17]⟩, ⟨some 19, .mov (.t 1), none, []⟩, ⟨some 20, .slc false 1 (.t 18) none (some (.t 19)), none, [18, 19]⟩, ⟨some 5, .mov (.t 20), none, [20]⟩])
 (.seq
  (.region false [] [⟨some 21, .mov (.t 0), none, []⟩, ⟨some 22, .mov (.t 0), none, [0]⟩, ⟨some 23, .chk (.t 22), none, [22]⟩, ⟨some 24, .fad 0 (.t 23), none, [23]⟩, ⟨some 25, .ld false 1 (.t 24), none, [24]⟩, ⟨some 26, .mov (.t 1), none, [1]⟩, ⟨some 27, .slc false 1 (.t 25) (some (.t 26)) none, none, [25, 26]⟩, ⟨some 28, .chk (.t 21), none, [21]⟩, ⟨some 29, .fad 0 (.t 28), none, [28]⟩, ⟨none, .st 1 (.t 29) (.t 27), none, [27, 29]⟩])
 (.seq
  (.region false [] [⟨some 30, .mov (.t 5), none, [5]⟩, ⟨some 4, .mov (.t 30), none, [30]⟩])
 .ret)))))
def rs_37 : List ARes := [.tmp 4]
theorem ac_37_ok : compCode Try.prog (Try.f37.body.getD .skip) = some ac_37.plain := by kernel_rfl
theorem ac_37_chk : ac_37.chk ⟨Try.f37.ntmps, []⟩ = true := by kernel_rfl
theorem ac_37_pairs : ac_37.pairs.map Prod.fst = ac_37.pairs.map Prod.snd := by kernel_rfl
theorem rs_37_ok : Try.f37.results.toList.mapM (compRes Try.prog) = some rs_37 := by kernel_rfl
theorem ok_37 {Γ : Env} (hΓ : EnvOk Try.prog Γ) (sp : Spec) (h : ∀ args mem r mem1, sp args mem = some (r, mem1) → wpA Γ mem.length ac_37 (finQ mem.length rs_37 r mem1) (entry 0 args) mem) : CallOk Try.prog 37 sp :=
  ok_of_body (fn := Try.f37) (c := Try.f37.body.getD .skip) hΓ mix_ok (by kernel_rfl) (by kernel_rfl) ac_37_ok ⟨ac_37_chk, ac_37_pairs⟩ rs_37_ok (by kernel_rfl) sp h

/-- (*chantry/pack.reader).field -/
def ac_38 : ACode :=
 (.seq
  (.region false [] [⟨some 2, .alloc [.int .i64 0, .int .u64 0, .string ⟨#[]⟩, .float .f64 0], none, []⟩])
 (.seq
  (.region false [] [⟨some 6, .mov (.t 0), none, []⟩, ⟨some 7, .call 37 [.t 6, .c (.int .i64 1)], none, [6]⟩, ⟨some 8, .iax 1 (.t 7) (.c (.int .i64 0)), none, [7]⟩, ⟨some 9, .ld false 1 (.t 8), none, [8]⟩, ⟨some 10, .cvt .i64 (.t 9), none, [9]⟩, ⟨some 11, .bld [.int .i64 0, .int .u64 0, .string ⟨#[]⟩, .float .f64 0] [(0, 1, .t 10)], none, [10]⟩, ⟨some 3, .alloc [.int .i64 0, .int .u64 0, .string ⟨#[]⟩, .float .f64 0], none, []⟩, ⟨none, .st 4 (.t 3) (.t 11), none, [11]⟩])
 (.seq
  (.seq
   (.region false [] [⟨some 12, .fad 0 (.t 3), none, []⟩, ⟨some 13, .ld false 1 (.t 12), none, [12]⟩])
  (.block 0
   (.seq
    (.region false [] [⟨some 15, .bin false .eql (.t 13) (.c (.int .i64 1)), none, []⟩, ⟨some 14, .mov (.t 15), none, [15]⟩])
   (.cond (.t 14)
     (.drop [13, 14]
      (.region false [] [⟨some 16, .mov (.t 0), none, [0]⟩, ⟨some 17, .call 45 [.t 16], none, [16]⟩, ⟨some 18, .fad 1 (.t 3), none, []⟩, ⟨none, .st 1 (.t 18) (.t 17), none, [17, 18]⟩]))
     (.drop [14]
      (.seq
       (.region false [] [⟨some 20, .bin false .eql (.t 13) (.c (.int .i64 2)), none, []⟩, ⟨some 19, .mov (.t 20), none, [20]⟩])
      (.cond (.t 19)
        (.drop [13, 19]
         (.region false [] [⟨some 21, .mov (.t 0), none, []⟩, ⟨some 22, .mov (.t 0), none, [0]⟩, ⟨some 23, .call 45 [.t 22], none, [22]⟩, ⟨some 24, .mnn [.t 23, .c (.int .u64 8001)], none, [23]⟩, ⟨some 25, .cvt .i64 (.t 24), none, [24]⟩, ⟨some 26, .call 37 [.t 21, .t 25], none, [21, 25]⟩, ⟨some 27, .b2s (.t 26), none, [26]⟩, ⟨some 28, .fad 2 (.t 3), none, []⟩, ⟨none, .st 1 (.t 28) (.t 27), none, [27, 28]⟩]))
        (.drop [19]
         (.seq
          (.region false [] [⟨some 30, .bin false .eql (.t 13) (.c (.int .i64 3)), none, [13]⟩, ⟨some 29, .mov (.t 30), none, [30]⟩])
         (.cond (.t 29)
           (.drop [29]
            (.seq
             (.region false [] [⟨some 32, .mov (.t 0), none, [0]⟩, ⟨some 33, .call 47 [.t 32, .c (.int .i64 8)], none, [32]⟩, ⟨some 34, .call 46 [.t 33], none, [33]⟩, ⟨some 31, .mov (.t 34), none, [34]⟩, ⟨some 35, .ext 0 (.t 31), none, []⟩, ⟨some 36, .ext 1 (.t 31), none, [31]⟩, ⟨some 4, .mov (.t 35), none, [35]⟩, ⟨some 5, .mov (.t 36), none, [36]⟩])
            (.seq
             (.seq
              (.region false [] [⟨some 37, .mov (.t 5), none, [5]⟩, ⟨some 38, .un .not (.t 37), none, [37]⟩])
             (.cond (.t 38)
               (.drop [38]
                (.region false [] [⟨some 39, .bld [] [], none, []⟩, ⟨some 40, .mki 76 (.t 39), none, [39]⟩, ⟨none, .pan (.t 40), none, [40]⟩]))
               (.drop [38]
                .skip)))
            (.region false [] [⟨some 41, .mov (.t 4), none, [4]⟩, ⟨some 42, .fad 3 (.t 3), none, []⟩, ⟨none, .st 1 (.t 42) (.t 41), none, [41, 42]⟩]))))
           (.drop [0, 29]
            .skip)))))))))))
 (.seq
  (.seq
   (.region false [] [⟨some 43, .ld true 4 (.t 3), none, []⟩, ⟨some 44, .call 30 [.t 43], none, [43]⟩, ⟨some 45, .un .not (.t 44), none, [44]⟩])
  (.cond (.t 45)
    (.drop [45]
     (.region false [] [⟨some 46, .bld [] [], none, []⟩, ⟨some 47, .mki 76 (.t 46), none, [46]⟩, ⟨none, .pan (.t 47), none, [47]⟩]))
    (.drop [45]
     .skip)))
 (.seq
  (.region false [] [⟨some 48, .ld true 4 (.t 3), none, [3]⟩, ⟨none, .st 4 (.t 2) (.t 48), none, [48]⟩])
 .ret)))))
def rs_38 : List ARes := [.cell 2 true 4]
theorem ac_38_ok : compCode Try.prog (Try.f38.body.getD .skip) = some ac_38.plain := by kernel_rfl
theorem ac_38_chk : ac_38.chk ⟨Try.f38.ntmps, []⟩ = true := by kernel_rfl
theorem ac_38_pairs : ac_38.pairs.map Prod.fst = ac_38.pairs.map Prod.snd := by kernel_rfl
theorem rs_38_ok : Try.f38.results.toList.mapM (compRes Try.prog) = some rs_38 := by kernel_rfl
theorem ok_38 {Γ : Env} (hΓ : EnvOk Try.prog Γ) (sp : Spec) (h : ∀ args mem r mem1, sp args mem = some (r, mem1) → wpA Γ mem.length ac_38 (finQ mem.length rs_38 r mem1) (entry 0 args) mem) : CallOk Try.prog 38 sp :=
  ok_of_body (fn := Try.f38) (c := Try.f38.body.getD .skip) hΓ mix_ok (by kernel_rfl) (by kernel_rfl) ac_38_ok ⟨ac_38_chk, ac_38_pairs⟩ rs_38_ok (by kernel_rfl) sp h

/-- chantry/chantryref02.one -/
def ac_39 : ACode :=
 (.seq
  (.region false [] [⟨some 4, .alloc [.int .i64 0, .int .u64 0, .string ⟨#[]⟩, .int .u64 0], none, []⟩, ⟨some 5, .mov (.c (.int .i64 0)), none, []⟩])
 (.seq
  (.region false [] [⟨some 12, .mov (.t 0), none, []⟩, ⟨some 13, .mov (.t 1), none, []⟩, ⟨some 14, .iax 1 (.t 12) (.t 13), none, [12, 13]⟩, ⟨some 15, .ld false 1 (.t 14), none, [14]⟩, ⟨some 16, .cvt .i64 (.t 15), none, [15]⟩, ⟨some 17, .bld [.int .i64 0, .int .u64 0, .string ⟨#[]⟩, .int .u64 0] [(0, 1, .t 16)], none, [16]⟩, ⟨some 6, .alloc [.int .i64 0, .int .u64 0, .string ⟨#[]⟩, .int .u64 0], none, []⟩, ⟨none, .st 4 (.t 6) (.t 17), none, [17]⟩])
 (.seq
  (.seq
   (.region false [] [⟨some 18, .fad 0 (.t 6), none, []⟩, ⟨some 19, .ld false 1 (.t 18), none, [18]⟩, ⟨some 20, .bin false .eql (.t 19) (.c (.int .i64 3)), none, [19]⟩])
  (.cond (.t 20)
    (.drop [20]
     (.seq
      (.region false [] [⟨some 22, .mov (.t 0), none, [0]⟩, ⟨some 23, .mov (.t 1), none, [1]⟩, ⟨some 24, .bin false .add (.t 23) (.c (.int .i64 1)), none, [23]⟩, ⟨some 25, .call 49 [.t 22, .t 24, .c (.int .i64 8)], none, [22, 24]⟩, ⟨some 26, .call 48 [.t 25], none, [25]⟩, ⟨some 21, .mov (.t 26), none, [26]⟩, ⟨some 27, .ext 0 (.t 21), none, []⟩, ⟨some 28, .ext 1 (.t 21), none, [21]⟩, ⟨some 7, .mov (.t 27), none, [27]⟩, ⟨some 8, .mov (.t 28), none, [28]⟩])
     (.seq
      (.region false [] [⟨some 29, .mov (.t 7), none, [7]⟩, ⟨some 30, .fad 3 (.t 6), none, []⟩, ⟨none, .st 1 (.t 30) (.t 29), none, [29, 30]⟩])
     (.seq
      (.region false [] [⟨some 31, .ld true 4 (.t 6), none, [6]⟩, ⟨none, .st 4 (.t 4) (.t 31), none, [31]⟩, ⟨some 5, .mov (.c (.int .i64 9)), none, []⟩])
     .ret))))
    (.drop [20]
     .skip)))
 (.seq
  (.region false [] [⟨some 32, .mov (.t 0), none, []⟩, ⟨some 33, .mov (.t 1), none, []⟩, ⟨some 34, .bin false .add (.t 33) (.c (.int .i64 1)), none, [33]⟩, ⟨some 35, .call 49 [.t 32, .t 34, .c (.int .i64 1)], none, [32, 34]⟩, ⟨some 36, .cvt .i64 (.t 35), none, [35]⟩, ⟨some 9, .mov (.t 36), none, [36]⟩])
 (.seq
  (.region false [] [⟨some 37, .mov (.t 0), none, []⟩, ⟨some 38, .mov (.t 1), none, []⟩, ⟨some 39, .bin false .add (.t 38) (.c (.int .i64 2)), none, [38]⟩, ⟨some 40, .mov (.t 9), none, []⟩, ⟨some 41, .mnn [.t 40, .c (.int .i64 8)], none, [40]⟩, ⟨some 42, .call 49 [.t 37, .t 39, .t 41], none, [37, 39, 41]⟩, ⟨some 10, .mov (.t 42), none, [42]⟩])
 (.seq
  (.seq
   (.region false [] [⟨some 43, .fad 0 (.t 6), none, []⟩, ⟨some 44, .ld false 1 (.t 43), none, [43]⟩, ⟨some 45, .bin false .eql (.t 44) (.c (.int .i64 2)), none, [44]⟩])
  (.cond (.t 45)
    (.drop [45]
     (.seq
      (.region false [] [⟨some 46, .mov (.t 10), none, [10]⟩, ⟨some 47, .mnn [.t 46, .c (.int .u64 8000)], none, [46]⟩, ⟨some 10, .mov (.t 47), none, [47]⟩])
     (.seq
      (.region false [] [⟨some 48, .mov (.t 1), none, []⟩, ⟨some 49, .bin false .add (.t 48) (.c (.int .i64 2)), none, [48]⟩, ⟨some 50, .mov (.t 9), none, []⟩, ⟨some 51, .bin false .add (.t 49) (.t 50), none, [49, 50]⟩, ⟨some 52, .mov (.t 10), none, []⟩, ⟨some 53, .cvt .i64 (.t 52), none, [52]⟩, ⟨some 54, .bin false .add (.t 51) (.t 53), none, [51, 53]⟩, ⟨some 55, .mov (.t 0), none, []⟩, ⟨some 56, .len false (.t 55), none, [55]⟩, ⟨some 57, .mnn [.t 54, .t 56], none, [54, 56]⟩, ⟨some 11, .mov (.t 57), none, [57]⟩])
     (.seq
      (.region false [] [⟨some 58, .mov (.t 0), none, [0]⟩, ⟨some 59, .mov (.t 1), none, [1]⟩, ⟨some 60, .bin false .add (.t 59) (.c (.int .i64 2)), none, [59]⟩, ⟨some 61, .mov (.t 9), none, []⟩, ⟨some 62, .bin false .add (.t 60) (.t 61), none, [60, 61]⟩, ⟨some 63, .mov (.t 11), none, []⟩, ⟨some 64, .mnn [.t 62, .t 63], none, [62, 63]⟩, ⟨some 65, .mov (.t 11), none, [11]⟩, ⟨some 66, .slc false 1 (.t 58) (some (.t 64)) (some (.t 65)), none, [58, 64, 65]⟩, ⟨some 67, .b2s (.t 66), none, [66]⟩, ⟨some 68, .fad 2 (.t 6), none, []⟩, ⟨none, .st 1 (.t 68) (.t 67), none, [67, 68]⟩])
     (.seq
      (.region false [] [⟨some 69, .ld true 4 (.t 6), none, [6]⟩, ⟨some 70, .mov (.t 9), none, [9]⟩, ⟨some 71, .bin false .add (.c (.int .i64 2)) (.t 70), none, [70]⟩, ⟨some 72, .mov (.t 10), none, [10]⟩, ⟨some 73, .cvt .i64 (.t 72), none, [72]⟩, ⟨some 74, .bin false .add (.t 71) (.t 73), none, [71, 73]⟩, ⟨none, .st 4 (.t 4) (.t 69), none, [69]⟩, ⟨some 5, .mov (.t 74), none, [74]⟩])
     .ret)))))
    (.drop [0, 1, 45]
     .skip)))
 (.seq
  (.region false [] [⟨some 75, .mov (.t 10), none, [10]⟩, ⟨some 76, .fad 1 (.t 6), none, []⟩, ⟨none, .st 1 (.t 76) (.t 75), none, [75, 76]⟩])
 (.seq
  (.region false [] [⟨some 77, .ld true 4 (.t 6), none, [6]⟩, ⟨some 78, .mov (.t 9), none, [9]⟩, ⟨some 79, .bin false .add (.c (.int .i64 2)) (.t 78), none, [78]⟩, ⟨none, .st 4 (.t 4) (.t 77), none, [77]⟩, ⟨some 5, .mov (.t 79), none, [79]⟩])
 .ret))))))))
def rs_39 : List ARes := [.cell 4 true 4, .tmp 5]
theorem ac_39_ok : compCode Try.prog (Try.f39.body.getD .skip) = some ac_39.plain := by kernel_rfl
theorem ac_39_chk : ac_39.chk ⟨Try.f39.ntmps, []⟩ = true := by kernel_rfl
theorem ac_39_pairs : ac_39.pairs.map Prod.fst = ac_39.pairs.map Prod.snd := by kernel_rfl
theorem rs_39_ok : Try.f39.results.toList.mapM (compRes Try.prog) = some rs_39 := by kernel_rfl
theorem ok_39 {Γ : Env} (hΓ : EnvOk Try.prog Γ) (sp : Spec) (h : ∀ args mem r mem1, sp args mem = some (r, mem1) → wpA Γ mem.length ac_39 (finQ mem.length rs_39 r mem1) (entry 0 args) mem) : CallOk Try.prog 39 sp :=
  ok_of_body (fn := Try.f39) (c := Try.f39.body.getD .skip) hΓ mix_ok (by kernel_rfl) (by kernel_rfl) ac_39_ok ⟨ac_39_chk, ac_39_pairs⟩ rs_39_ok (by kernel_rfl) sp h

/-- chantry/real.Canon -/
def ac_41 : ACode :=
 (.seq
  (.region false [] [⟨some 2, .mov (.c (.float .f64 0)), none, []⟩])
 (.seq
  (.block 0
   (.seq
    (.region false [] [⟨some 4, .mov (.t 0), none, []⟩, ⟨some 5, .mov (.t 0), none, []⟩, ⟨some 6, .bin false .neq (.t 4) (.t 5), none, [4, 5]⟩, ⟨some 3, .mov (.t 6), none, [6]⟩])
   (.cond (.t 3)
     (.drop [0, 3]
      (.seq
       (.region false [] [⟨some 7, .call 50 [.c (.int .u64 9221120237041090561)], none, []⟩, ⟨some 2, .mov (.t 7), none, [7]⟩])
      .ret))
     (.drop [3]
      (.seq
       (.region false [] [⟨some 9, .mov (.t 0), none, []⟩, ⟨some 10, .bin false .eql (.t 9) (.c (.float .f64 0)), none, [9]⟩, ⟨some 8, .mov (.t 10), none, [10]⟩])
      (.cond (.t 8)
        (.drop [0, 8]
         (.seq
          (.region false [] [⟨some 2, .mov (.c (.float .f64 0)), none, []⟩])
         .ret))
        (.drop [8]
         .skip)))))))
 (.seq
  (.region false [] [⟨some 11, .mov (.t 0), none, [0]⟩, ⟨some 2, .mov (.t 11), none, [11]⟩])
 .ret)))
def rs_41 : List ARes := [.tmp 2]
theorem ac_41_ok : compCode Try.prog (Try.f41.body.getD .skip) = some ac_41.plain := by kernel_rfl
theorem ac_41_chk : ac_41.chk ⟨Try.f41.ntmps, []⟩ = true := by kernel_rfl
theorem ac_41_pairs : ac_41.pairs.map Prod.fst = ac_41.pairs.map Prod.snd := by kernel_rfl
theorem rs_41_ok : Try.f41.results.toList.mapM (compRes Try.prog) = some rs_41 := by kernel_rfl
theorem ok_41 {Γ : Env} (hΓ : EnvOk Try.prog Γ) (sp : Spec) (h : ∀ args mem r mem1, sp args mem = some (r, mem1) → wpA Γ mem.length ac_41 (finQ mem.length rs_41 r mem1) (entry 0 args) mem) : CallOk Try.prog 41 sp :=
  ok_of_body (fn := Try.f41) (c := Try.f41.body.getD .skip) hΓ mix_ok (by kernel_rfl) (by kernel_rfl) ac_41_ok ⟨ac_41_chk, ac_41_pairs⟩ rs_41_ok (by kernel_rfl) sp h

/-- math/bits.Len64 -/
def ac_42 : ACode :=
 (.seq
  (.region false [] [⟨some 2, .mov (.c (.int .i64 0)), none, []⟩])
 (.seq
  (.seq
   (.region false [] [⟨some 3, .mov (.t 0), none, []⟩, ⟨some 4, .bin false .geq (.t 3) (.c (.int .u64 4294967296)), none, [3]⟩])
  (.cond (.t 4)
    (.drop [2, 4]
     (.seq
      (.region false [] [⟨some 5, .mov (.t 0), none, [0]⟩, ⟨some 6, .bin false .shr (.t 5) (.c (.int .u64 32)), none, [5]⟩, ⟨some 0, .mov (.t 6), none, [6]⟩])
     (.region false [] [⟨some 2, .mov (.c (.int .i64 32)), none, []⟩])))
    (.drop [4]
     .skip)))
 (.seq
  (.seq
   (.region false [] [⟨some 7, .mov (.t 0), none, []⟩, ⟨some 8, .bin false .geq (.t 7) (.c (.int .u64 65536)), none, [7]⟩])
  (.cond (.t 8)
    (.drop [8]
     (.seq
      (.region false [] [⟨some 9, .mov (.t 0), none, [0]⟩, ⟨some 10, .bin false .shr (.t 9) (.c (.int .u64 16)), none, [9]⟩, ⟨some 0, .mov (.t 10), none, [10]⟩])
     (.region false [] [⟨some 11, .mov (.t 2), none, [2]⟩, ⟨some 12, .bin false .add (.t 11) (.c (.int .i64 16)), none, [11]⟩, ⟨some 2, .mov (.t 12), none, [12]⟩])))
    (.drop [8]
     .skip)))
 (.seq
  (.seq
   (.region false [] [⟨some 13, .mov (.t 0), none, []⟩, ⟨some 14, .bin false .geq (.t 13) (.c (.int .u64 256)), none, [13]⟩])
  (.cond (.t 14)
    (.drop [14]
     (.seq
      (.region false [] [⟨some 15, .mov (.t 0), none, [0]⟩, ⟨some 16, .bin false .shr (.t 15) (.c (.int .u64 8)), none, [15]⟩, ⟨some 0, .mov (.t 16), none, [16]⟩])
     (.region false [] [⟨some 17, .mov (.t 2), none, [2]⟩, ⟨some 18, .bin false .add (.t 17) (.c (.int .i64 8)), none, [17]⟩, ⟨some 2, .mov (.t 18), none, [18]⟩])))
    (.drop [14]
     .skip)))
 (.seq
  (.region false [] [⟨some 19, .mov (.t 2), none, [2]⟩, ⟨some 20, .mov (.t 0), none, [0]⟩, ⟨some 21, .cvt .u8 (.t 20), none, [20]⟩, ⟨some 22, .ixs (.c (.string bytes_d46a035e)) (.t 21), none, [21]⟩, ⟨some 23, .cvt .i64 (.t 22), none, [22]⟩, ⟨some 24, .bin false .add (.t 19) (.t 23), none, [19, 23]⟩, ⟨some 2, .mov (.t 24), none, [24]⟩])
 .ret)))))
def rs_42 : List ARes := [.tmp 2]
theorem ac_42_ok : compCode Try.prog (Try.f42.body.getD .skip) = some ac_42.plain := by kernel_rfl
theorem ac_42_chk : ac_42.chk ⟨Try.f42.ntmps, []⟩ = true := by kernel_rfl
theorem ac_42_pairs : ac_42.pairs.map Prod.fst = ac_42.pairs.map Prod.snd := by kernel_rfl
theorem rs_42_ok : Try.f42.results.toList.mapM (compRes Try.prog) = some rs_42 := by kernel_rfl
theorem ok_42 {Γ : Env} (hΓ : EnvOk Try.prog Γ) (sp : Spec) (h : ∀ args mem r mem1, sp args mem = some (r, mem1) → wpA Γ mem.length ac_42 (finQ mem.length rs_42 r mem1) (entry 0 args) mem) : CallOk Try.prog 42 sp :=
  ok_of_body (fn := Try.f42) (c := Try.f42.body.getD .skip) hΓ mix_ok (by kernel_rfl) (by kernel_rfl) ac_42_ok ⟨ac_42_chk, ac_42_pairs⟩ rs_42_ok (by kernel_rfl) sp h

/-- chantry/chantryref01.Canon -/
def ac_43 : ACode :=
 (.seq
  (.region false [] [⟨some 2, .mov (.c (.int .u64 0)), none, []⟩])
 (.seq
  (.block 0
   (.seq
    (.region false [] [⟨some 4, .mov (.t 0), none, []⟩, ⟨some 5, .bin false .eql (.t 4) (.c (.int .u64 9223372036854775808)), none, [4]⟩, ⟨some 3, .mov (.t 5), none, [5]⟩])
   (.cond (.t 3)
     (.drop [0, 3]
      (.seq
       (.region false [] [⟨some 2, .mov (.c (.int .u64 0)), none, []⟩])
      .ret))
     (.drop [3]
      (.seq
       (.region false [] [⟨some 7, .mov (.t 0), none, []⟩, ⟨some 8, .bin false .rem (.t 7) (.c (.int .u64 9223372036854775808)), none, [7]⟩, ⟨some 9, .bin false .gtr (.t 8) (.c (.int .u64 9218868437227405312)), none, [8]⟩, ⟨some 6, .mov (.t 9), none, [9]⟩])
      (.cond (.t 6)
        (.drop [0, 6]
         (.seq
          (.region false [] [⟨some 2, .mov (.c (.int .u64 9221120237041090561)), none, []⟩])
         .ret))
        (.drop [6]
         .skip)))))))
 (.seq
  (.region false [] [⟨some 10, .mov (.t 0), none, [0]⟩, ⟨some 2, .mov (.t 10), none, [10]⟩])
 .ret)))
def rs_43 : List ARes := [.tmp 2]
theorem ac_43_ok : compCode Try.prog (Try.f43.body.getD .skip) = some ac_43.plain := by kernel_rfl
theorem ac_43_chk : ac_43.chk ⟨Try.f43.ntmps, []⟩ = true := by kernel_rfl
theorem ac_43_pairs : ac_43.pairs.map Prod.fst = ac_43.pairs.map Prod.snd := by kernel_rfl
theorem rs_43_ok : Try.f43.results.toList.mapM (compRes Try.prog) = some rs_43 := by kernel_rfl
theorem ok_43 {Γ : Env} (hΓ : EnvOk Try.prog Γ) (sp : Spec) (h : ∀ args mem r mem1, sp args mem = some (r, mem1) → wpA Γ mem.length ac_43 (finQ mem.length rs_43 r mem1) (entry 0 args) mem) : CallOk Try.prog 43 sp :=
  ok_of_body (fn := Try.f43) (c := Try.f43.body.getD .skip) hΓ mix_ok (by kernel_rfl) (by kernel_rfl) ac_43_ok ⟨ac_43_chk, ac_43_pairs⟩ rs_43_ok (by kernel_rfl) sp h

/-- chantry/chantryref02.bytes -/
def ac_44 : ACode :=
 (.seq
  (.region false [] [⟨some 1, .box (.t 0), none, [0]⟩, ⟨some 2, .mov (.c (.slice none 0 0)), none, []⟩])
 (.seal_ 1
  (.seq
   (.region false [] [⟨some 4, .fad 0 (.t 1), none, []⟩, ⟨some 5, .ld false 1 (.t 4), none, [4]⟩, ⟨some 6, .cvt .u8 (.t 5), none, [5]⟩, ⟨some 7, .bsl 5 1 [.t 6], none, [6]⟩, ⟨some 3, .mov (.t 7), none, [7]⟩])
  (.seq
   (.seq
    (.region false [] [⟨some 8, .fad 0 (.t 1), none, []⟩, ⟨some 9, .ld false 1 (.t 8), none, [8]⟩])
   (.block 0
    (.seq
     (.region false [] [⟨some 11, .bin false .eql (.t 9) (.c (.int .i64 1)), none, []⟩, ⟨some 10, .mov (.t 11), none, [11]⟩])
    (.cond (.t 10)
      (.drop [9, 10]
       (.seq
        (.region false [] [⟨some 12, .mov (.t 3), none, [3]⟩, ⟨some 13, .fad 1 (.t 1), none, [1]⟩, ⟨some 14, .ld false 1 (.t 13), none, [13]⟩, ⟨some 15, .call 51 [.t 14], none, [14]⟩, ⟨some 16, .app 5 1 1 (.t 12) (.t 15), none, [12, 15]⟩, ⟨some 2, .mov (.t 16), none, [16]⟩])
       .ret))
      (.drop [10]
       (.seq
        (.region false [] [⟨some 18, .bin false .eql (.t 9) (.c (.int .i64 2)), none, [9]⟩, ⟨some 17, .mov (.t 18), none, [18]⟩])
       (.cond (.t 17)
         (.drop [17]
          (.seq
           (.region false [] [⟨some 19, .mov (.t 3), none, [3]⟩, ⟨some 20, .fad 2 (.t 1), none, []⟩, ⟨some 21, .ld false 1 (.t 20), none, [20]⟩, ⟨some 22, .len true (.t 21), none, [21]⟩, ⟨some 23, .cvt .u64 (.t 22), none, [22]⟩, ⟨some 24, .call 51 [.t 23], none, [23]⟩, ⟨some 25, .app 5 1 1 (.t 19) (.t 24), none, [19, 24]⟩, ⟨some 3, .mov (.t 25), none, [25]⟩])
          (.seq
           (.region false [] [⟨some 26, .mov (.t 3), none, [3]⟩, ⟨some 27, .fad 2 (.t 1), none, [1]⟩, ⟨some 28, .ld false 1 (.t 27), none, [27]⟩, ⟨some 29, .s2b 5 (.t 28), none, [28]⟩, ⟨some 30, .app 5 1 1 (.t 26) (.t 29), none, [26, 29]⟩, ⟨some 2, .mov (.t 30), none, [30]⟩])
          .ret)))
         (.drop [17]
          .skip))))))))
  (.seq
   (.region false [] [⟨some 31, .mov (.t 3), none, [3]⟩, ⟨some 32, .fad 3 (.t 1), none, [1]⟩, ⟨some 33, .ld false 1 (.t 32), none, [32]⟩, ⟨some 34, .call 53 [.t 33], none, [33]⟩, ⟨some 35, .call 52 [.t 34, .c (.int .i64 8)], none, [34]⟩, ⟨some 36, .app 5 1 1 (.t 31) (.t 35), none, [31, 35]⟩, ⟨some 2, .mov (.t 36), none, [36]⟩])
  .ret)))))
def rs_44 : List ARes := [.tmp 2]
theorem ac_44_ok : compCode Try.prog (Try.f44.body.getD .skip) = some ac_44.plain := by kernel_rfl
theorem ac_44_chk : ac_44.chk ⟨Try.f44.ntmps, []⟩ = true := by kernel_rfl
theorem ac_44_pairs : ac_44.pairs.map Prod.fst = ac_44.pairs.map Prod.snd := by kernel_rfl
theorem rs_44_ok : Try.f44.results.toList.mapM (compRes Try.prog) = some rs_44 := by kernel_rfl
theorem ok_44 {Γ : Env} (hΓ : EnvOk Try.prog Γ) (sp : Spec) (h : ∀ args mem r mem1, sp args mem = some (r, mem1) → wpA Γ mem.length ac_44 (finQ mem.length rs_44 r mem1) (entry 0 args) mem) : CallOk Try.prog 44 sp :=
  ok_of_body (fn := Try.f44) (c := Try.f44.body.getD .skip) hΓ mix_ok (by kernel_rfl) (by kernel_rfl) ac_44_ok ⟨ac_44_chk, ac_44_pairs⟩ rs_44_ok (by kernel_rfl) sp h

/-- (*chantry/pack.reader).number -/
def ac_45 : ACode :=
 (.seq
  (.region false [] [⟨some 2, .mov (.c (.int .u64 0)), none, []⟩])
 (.seq
  (.region false [] [⟨some 5, .mov (.t 0), none, []⟩, ⟨some 6, .call 37 [.t 5, .c (.int .i64 1)], none, [5]⟩, ⟨some 7, .iax 1 (.t 6) (.c (.int .i64 0)), none, [6]⟩, ⟨some 8, .ld false 1 (.t 7), none, [7]⟩, ⟨some 9, .cvt .i64 (.t 8), none, [8]⟩, ⟨some 3, .mov (.t 9), none, [9]⟩])
 (.seq
  (.seq
   (.region false [] [⟨some 10, .mov (.t 3), none, []⟩, ⟨some 11, .bin false .gtr (.t 10) (.c (.int .i64 8)), none, [10]⟩])
  (.cond (.t 11)
    (.drop [11]
     (.region false [] [⟨some 12, .bld [] [], none, []⟩, ⟨some 13, .mki 76 (.t 12), none, [12]⟩, ⟨none, .pan (.t 13), none, [13]⟩]))
    (.drop [11]
     .skip)))
 (.seq
  (.region false [] [⟨some 14, .mov (.t 0), none, [0]⟩, ⟨some 15, .mov (.t 3), none, []⟩, ⟨some 16, .call 47 [.t 14, .t 15], none, [14, 15]⟩, ⟨some 4, .mov (.t 16), none, [16]⟩])
 (.seq
  (.seq
   (.region false [] [⟨some 17, .mov (.t 3), none, []⟩, ⟨some 18, .bin false .gtr (.t 17) (.c (.int .i64 0)), none, [17]⟩, ⟨some 19, .mov (.t 18), none, [18]⟩, ⟨some 20, .mov (.t 4), some (19, true), []⟩, ⟨some 21, .mov (.t 3), some (19, true), [3]⟩, ⟨some 22, .bin false .sub (.t 21) (.c (.int .i64 1)), some (19, true), [21]⟩, ⟨some 23, .bin false .mul (.c (.int .i64 8)) (.t 22), some (19, true), [22]⟩, ⟨some 24, .bin false .shr (.t 20) (.t 23), some (19, true), [20, 23]⟩, ⟨some 25, .bin false .eql (.t 24) (.c (.int .u64 0)), some (19, true), [24]⟩, ⟨some 26, .pick (.t 19) (.t 25) (.c (.bool false)), none, [19, 25]⟩])
  (.cond (.t 26)
    (.drop [26]
     (.region false [] [⟨some 27, .bld [] [], none, []⟩, ⟨some 28, .mki 76 (.t 27), none, [27]⟩, ⟨none, .pan (.t 28), none, [28]⟩]))
    (.drop [26]
     .skip)))
 (.seq
  (.region false [] [⟨some 29, .mov (.t 4), none, [4]⟩, ⟨some 2, .mov (.t 29), none, [29]⟩])
 .ret))))))
def rs_45 : List ARes := [.tmp 2]
theorem ac_45_ok : compCode Try.prog (Try.f45.body.getD .skip) = some ac_45.plain := by kernel_rfl
theorem ac_45_chk : ac_45.chk ⟨Try.f45.ntmps, []⟩ = true := by kernel_rfl
theorem ac_45_pairs : ac_45.pairs.map Prod.fst = ac_45.pairs.map Prod.snd := by kernel_rfl
theorem rs_45_ok : Try.f45.results.toList.mapM (compRes Try.prog) = some rs_45 := by kernel_rfl
theorem ok_45 {Γ : Env} (hΓ : EnvOk Try.prog Γ) (sp : Spec) (h : ∀ args mem r mem1, sp args mem = some (r, mem1) → wpA Γ mem.length ac_45 (finQ mem.length rs_45 r mem1) (entry 0 args) mem) : CallOk Try.prog 45 sp :=
  ok_of_body (fn := Try.f45) (c := Try.f45.body.getD .skip) hΓ mix_ok (by kernel_rfl) (by kernel_rfl) ac_45_ok ⟨ac_45_chk, ac_45_pairs⟩ rs_45_ok (by kernel_rfl) sp h

/-- chantry/real.Decode -/
def ac_46 : ACode :=
 (.seq
  (.region false [] [⟨some 2, .mov (.c (.float .f64 0)), none, []⟩, ⟨some 3, .mov (.c (.bool false)), none, [2]⟩])
 (.seq
  (.region false [] [⟨some 6, .mov (.t 0), none, []⟩, ⟨some 7, .un .xor (.t 6), none, [6]⟩, ⟨some 4, .mov (.t 7), none, [7]⟩])
 (.seq
  (.seq
   (.region false [] [⟨some 8, .mov (.t 0), none, []⟩, ⟨some 9, .bin false .and (.t 8) (.c (.int .u64 9223372036854775808)), none, [8]⟩, ⟨some 10, .bin false .neq (.t 9) (.c (.int .u64 0)), none, [9]⟩])
  (.cond (.t 10)
    (.drop [4, 10]
     (.region false [] [⟨some 11, .mov (.t 0), none, []⟩, ⟨some 12, .bin false .andNot (.t 11) (.c (.int .u64 9223372036854775808)), none, [11]⟩, ⟨some 4, .mov (.t 12), none, [12]⟩]))
    (.drop [10]
     .skip)))
 (.seq
  (.region false [] [⟨some 13, .mov (.t 4), none, [4]⟩, ⟨some 14, .call 50 [.t 13], none, [13]⟩, ⟨some 5, .mov (.t 14), none, [14]⟩])
 (.seq
  (.seq
   (.region false [] [⟨some 15, .mov (.t 5), none, []⟩, ⟨some 16, .call 33 [.t 15], none, [15]⟩, ⟨some 17, .mov (.t 0), none, [0]⟩, ⟨some 18, .bin false .neq (.t 16) (.t 17), none, [16, 17]⟩])
  (.cond (.t 18)
    (.drop [5, 18]
     (.seq
      (.region false [] [⟨some 2, .mov (.c (.float .f64 0)), none, []⟩, ⟨some 3, .mov (.c (.bool false)), none, []⟩])
     .ret))
    (.drop [18]
     .skip)))
 (.seq
  (.region false [] [⟨some 19, .mov (.t 5), none, [5]⟩, ⟨some 2, .mov (.t 19), none, [19]⟩, ⟨some 3, .mov (.c (.bool true)), none, []⟩])
 .ret))))))
def rs_46 : List ARes := [.tmp 2, .tmp 3]
theorem ac_46_ok : compCode Try.prog (Try.f46.body.getD .skip) = some ac_46.plain := by kernel_rfl
theorem ac_46_chk : ac_46.chk ⟨Try.f46.ntmps, []⟩ = true := by kernel_rfl
theorem ac_46_pairs : ac_46.pairs.map Prod.fst = ac_46.pairs.map Prod.snd := by kernel_rfl
theorem rs_46_ok : Try.f46.results.toList.mapM (compRes Try.prog) = some rs_46 := by kernel_rfl
theorem ok_46 {Γ : Env} (hΓ : EnvOk Try.prog Γ) (sp : Spec) (h : ∀ args mem r mem1, sp args mem = some (r, mem1) → wpA Γ mem.length ac_46 (finQ mem.length rs_46 r mem1) (entry 0 args) mem) : CallOk Try.prog 46 sp :=
  ok_of_body (fn := Try.f46) (c := Try.f46.body.getD .skip) hΓ mix_ok (by kernel_rfl) (by kernel_rfl) ac_46_ok ⟨ac_46_chk, ac_46_pairs⟩ rs_46_ok (by kernel_rfl) sp h

/-- (*chantry/pack.reader).low -/
def ac_47 : ACode :=
 (.seq
  (.region false [] [⟨some 4, .mov (.c (.int .u64 0)), none, []⟩])
 (.seq
  (.region false [] [⟨some 5, .mov (.c (.int .u64 0)), none, []⟩])
 (.seq
  (.seq
   (.region false [] [⟨some 8, .mov (.t 0), none, [0]⟩, ⟨some 9, .mov (.t 1), none, [1]⟩, ⟨some 10, .call 37 [.t 8, .t 9], none, [8, 9]⟩, ⟨some 11, .len false (.t 10), none, []⟩, ⟨some 12, .mov (.c (.int .i64 0)), none, []⟩])
  (.block 0
   (.loop [5, 10, 11, 12]
    (.seq
     (.region false [] [⟨some 13, .bin false .lss (.t 12) (.t 11), none, []⟩])
    (.seq
     (.cond (.t 13)
       (.drop [13]
        .skip)
       (.drop [10, 11, 12, 13]
        (.exit 0)))
    (.seq
     (.block 1
      (.seq
       (.region false [] [⟨some 14, .mov (.t 12), none, []⟩, ⟨some 15, .iax 1 (.t 10) (.t 12), none, []⟩, ⟨some 16, .ld false 1 (.t 15), none, [15]⟩, ⟨some 6, .mov (.t 14), none, [14]⟩, ⟨some 7, .mov (.t 16), none, [16]⟩])
      (.region false [] [⟨some 17, .mov (.t 5), none, [5]⟩, ⟨some 18, .mov (.t 7), none, [7]⟩, ⟨some 19, .cvt .u64 (.t 18), none, [18]⟩, ⟨some 20, .mov (.t 6), none, [6]⟩, ⟨some 21, .bin false .mul (.c (.int .i64 8)) (.t 20), none, [20]⟩, ⟨some 22, .bin false .shl (.t 19) (.t 21), none, [19, 21]⟩, ⟨some 23, .bin false .or (.t 17) (.t 22), none, [17, 22]⟩, ⟨some 5, .mov (.t 23), none, [23]⟩])))
    (.region false [] [⟨some 24, .bin false .add (.t 12) (.c (.int .i64 1)), none, [12]⟩, ⟨some 12, .mov (.t 24), none, [24]⟩])))))))
 (.seq
  (.region false [] [⟨some 25, .mov (.t 5), none, [5]⟩, ⟨some 4, .mov (.t 25), none, [25]⟩])
 .ret))))
def rs_47 : List ARes := [.tmp 4]
theorem ac_47_ok : compCode Try.prog (Try.f47.body.getD .skip) = some ac_47.plain := by kernel_rfl
theorem ac_47_chk : ac_47.chk ⟨Try.f47.ntmps, []⟩ = true := by kernel_rfl
theorem ac_47_pairs : ac_47.pairs.map Prod.fst = ac_47.pairs.map Prod.snd := by kernel_rfl
theorem rs_47_ok : Try.f47.results.toList.mapM (compRes Try.prog) = some rs_47 := by kernel_rfl
theorem ok_47 {Γ : Env} (hΓ : EnvOk Try.prog Γ) (sp : Spec) (h : ∀ args mem r mem1, sp args mem = some (r, mem1) → wpA Γ mem.length ac_47 (finQ mem.length rs_47 r mem1) (entry 0 args) mem) : CallOk Try.prog 47 sp :=
  ok_of_body (fn := Try.f47) (c := Try.f47.body.getD .skip) hΓ mix_ok (by kernel_rfl) (by kernel_rfl) ac_47_ok ⟨ac_47_chk, ac_47_pairs⟩ rs_47_ok (by kernel_rfl) sp h

/-- chantry/chantryref01.Decode -/
def ac_48 : ACode :=
 (.seq
  (.region false [] [⟨some 2, .mov (.c (.int .u64 0)), none, []⟩, ⟨some 3, .mov (.c (.bool false)), none, [2]⟩])
 (.seq
  (.region false [] [⟨some 5, .mov (.t 0), none, []⟩, ⟨some 6, .bin false .sub (.c (.int .u64 18446744073709551615)) (.t 5), none, [5]⟩, ⟨some 4, .mov (.t 6), none, [6]⟩])
 (.seq
  (.seq
   (.region false [] [⟨some 7, .mov (.t 0), none, []⟩, ⟨some 8, .bin false .geq (.t 7) (.c (.int .u64 9223372036854775808)), none, [7]⟩])
  (.cond (.t 8)
    (.drop [4, 8]
     (.region false [] [⟨some 9, .mov (.t 0), none, []⟩, ⟨some 10, .bin false .sub (.t 9) (.c (.int .u64 9223372036854775808)), none, [9]⟩, ⟨some 4, .mov (.t 10), none, [10]⟩]))
    (.drop [8]
     .skip)))
 (.seq
  (.seq
   (.region false [] [⟨some 11, .mov (.t 4), none, []⟩, ⟨some 12, .call 53 [.t 11], none, [11]⟩, ⟨some 13, .mov (.t 0), none, [0]⟩, ⟨some 14, .bin false .neq (.t 12) (.t 13), none, [12, 13]⟩])
  (.cond (.t 14)
    (.drop [4, 14]
     (.seq
      (.region false [] [⟨some 2, .mov (.c (.int .u64 0)), none, []⟩, ⟨some 3, .mov (.c (.bool false)), none, []⟩])
     .ret))
    (.drop [14]
     .skip)))
 (.seq
  (.region false [] [⟨some 15, .mov (.t 4), none, [4]⟩, ⟨some 2, .mov (.t 15), none, [15]⟩, ⟨some 3, .mov (.c (.bool true)), none, []⟩])
 .ret)))))
def rs_48 : List ARes := [.tmp 2, .tmp 3]
theorem ac_48_ok : compCode Try.prog (Try.f48.body.getD .skip) = some ac_48.plain := by kernel_rfl
theorem ac_48_chk : ac_48.chk ⟨Try.f48.ntmps, []⟩ = true := by kernel_rfl
theorem ac_48_pairs : ac_48.pairs.map Prod.fst = ac_48.pairs.map Prod.snd := by kernel_rfl
theorem rs_48_ok : Try.f48.results.toList.mapM (compRes Try.prog) = some rs_48 := by kernel_rfl
theorem ok_48 {Γ : Env} (hΓ : EnvOk Try.prog Γ) (sp : Spec) (h : ∀ args mem r mem1, sp args mem = some (r, mem1) → wpA Γ mem.length ac_48 (finQ mem.length rs_48 r mem1) (entry 0 args) mem) : CallOk Try.prog 48 sp :=
  ok_of_body (fn := Try.f48) (c := Try.f48.body.getD .skip) hΓ mix_ok (by kernel_rfl) (by kernel_rfl) ac_48_ok ⟨ac_48_chk, ac_48_pairs⟩ rs_48_ok (by kernel_rfl) sp h

/-- chantry/chantryref02.value -/
def ac_49 : ACode :=
 (.seq
  (.region false [] [⟨some 6, .mov (.c (.int .u64 0)), none, []⟩])
 (.seq
  (.region false [] [⟨some 7, .mov (.c (.int .u64 0)), none, []⟩])
 (.seq
  (.seq
   (.region false [] [⟨some 9, .mov (.t 2), none, [2]⟩, ⟨some 10, .bin false .sub (.t 9) (.c (.int .i64 1)), none, [9]⟩, ⟨some 8, .mov (.t 10), none, [10]⟩])
  (.block 0
   (.loop [0, 1, 7, 8]
    (.seq
     (.seq
      (.region false [] [⟨some 11, .mov (.t 8), none, []⟩, ⟨some 12, .bin false .geq (.t 11) (.c (.int .i64 0)), none, [11]⟩])
     (.cond (.t 12)
       (.drop [12]
        .skip)
       (.drop [0, 1, 8, 12]
        (.exit 0))))
    (.seq
     (.block 1
      (.seq
       (.region false [] [⟨some 15, .mov (.t 1), none, []⟩, ⟨some 16, .mov (.t 8), none, []⟩, ⟨some 17, .bin false .add (.t 15) (.t 16), none, [15, 16]⟩, ⟨some 18, .mov (.t 0), none, []⟩, ⟨some 19, .len false (.t 18), none, [18]⟩, ⟨some 20, .bin false .lss (.t 17) (.t 19), none, [17, 19]⟩])
      (.cond (.t 20)
        (.drop [20]
         (.region false [] [⟨some 21, .mov (.t 7), none, [7]⟩, ⟨some 22, .bin false .mul (.t 21) (.c (.int .u64 256)), none, [21]⟩, ⟨some 23, .mov (.t 0), none, []⟩, ⟨some 24, .mov (.t 1), none, []⟩, ⟨some 25, .mov (.t 8), none, []⟩, ⟨some 26, .bin false .add (.t 24) (.t 25), none, [24, 25]⟩, ⟨some 27, .iax 1 (.t 23) (.t 26), none, [23, 26]⟩, ⟨some 28, .ld false 1 (.t 27), none, [27]⟩, ⟨some 29, .cvt .u64 (.t 28), none, [28]⟩, ⟨some 30, .bin false .add (.t 22) (.t 29), none, [22, 29]⟩, ⟨some 7, .mov (.t 30), none, [30]⟩]))
        (.drop [20]
         .skip))))
    (.region false [] [⟨some 13, .mov (.t 8), none, [8]⟩, ⟨some 14, .bin false .sub (.t 13) (.c (.int .i64 1)), none, [13]⟩, ⟨some 8, .mov (.t 14), none, [14]⟩]))))))
 (.seq
  (.region false [] [⟨some 31, .mov (.t 7), none, [7]⟩, ⟨some 6, .mov (.t 31), none, [31]⟩])
 .ret))))
def rs_49 : List ARes := [.tmp 6]
theorem ac_49_ok : compCode Try.prog (Try.f49.body.getD .skip) = some ac_49.plain := by kernel_rfl
theorem ac_49_chk : ac_49.chk ⟨Try.f49.ntmps, []⟩ = true := by kernel_rfl
theorem ac_49_pairs : ac_49.pairs.map Prod.fst = ac_49.pairs.map Prod.snd := by kernel_rfl
theorem rs_49_ok : Try.f49.results.toList.mapM (compRes Try.prog) = some rs_49 := by kernel_rfl
theorem ok_49 {Γ : Env} (hΓ : EnvOk Try.prog Γ) (sp : Spec) (h : ∀ args mem r mem1, sp args mem = some (r, mem1) → wpA Γ mem.length ac_49 (finQ mem.length rs_49 r mem1) (entry 0 args) mem) : CallOk Try.prog 49 sp :=
  ok_of_body (fn := Try.f49) (c := Try.f49.body.getD .skip) hΓ mix_ok (by kernel_rfl) (by kernel_rfl) ac_49_ok ⟨ac_49_chk, ac_49_pairs⟩ rs_49_ok (by kernel_rfl) sp h

/-- chantry/chantryref02.number -/
def ac_51 : ACode :=
 (.seq
  (.region false [] [⟨some 2, .mov (.c (.slice none 0 0)), none, []⟩])
 (.seq
  (.region false [] [⟨some 3, .mov (.c (.int .i64 0)), none, []⟩])
 (.seq
  (.seq
   (.region false [] [⟨some 5, .mov (.t 0), none, []⟩, ⟨some 4, .mov (.t 5), none, [5]⟩])
  (.block 0
   (.loop [0, 3, 4]
    (.seq
     (.seq
      (.region false [] [⟨some 6, .mov (.t 4), none, []⟩, ⟨some 7, .bin false .gtr (.t 6) (.c (.int .u64 0)), none, [6]⟩])
     (.cond (.t 7)
       (.drop [7]
        .skip)
       (.drop [4, 7]
        (.exit 0))))
    (.seq
     (.block 1
      (.region false [] [⟨some 10, .mov (.t 3), none, [3]⟩, ⟨some 11, .bin false .add (.t 10) (.c (.int .i64 1)), none, [10]⟩, ⟨some 3, .mov (.t 11), none, [11]⟩]))
    (.region false [] [⟨some 8, .mov (.t 4), none, [4]⟩, ⟨some 9, .bin false .quo (.t 8) (.c (.int .u64 256)), none, [8]⟩, ⟨some 4, .mov (.t 9), none, [9]⟩]))))))
 (.seq
  (.region false [] [⟨some 12, .mov (.t 3), none, []⟩, ⟨some 13, .cvt .u8 (.t 12), none, [12]⟩, ⟨some 14, .bsl 5 1 [.t 13], none, [13]⟩, ⟨some 15, .mov (.t 0), none, [0]⟩, ⟨some 16, .mov (.t 3), none, [3]⟩, ⟨some 17, .call 52 [.t 15, .t 16], none, [15, 16]⟩, ⟨some 18, .app 5 1 1 (.t 14) (.t 17), none, [14, 17]⟩, ⟨some 2, .mov (.t 18), none, [18]⟩])
 .ret))))
def rs_51 : List ARes := [.tmp 2]
theorem ac_51_ok : compCode Try.prog (Try.f51.body.getD .skip) = some ac_51.plain := by kernel_rfl
theorem ac_51_chk : ac_51.chk ⟨Try.f51.ntmps, []⟩ = true := by kernel_rfl
theorem ac_51_pairs : ac_51.pairs.map Prod.fst = ac_51.pairs.map Prod.snd := by kernel_rfl
theorem rs_51_ok : Try.f51.results.toList.mapM (compRes Try.prog) = some rs_51 := by kernel_rfl
theorem ok_51 {Γ : Env} (hΓ : EnvOk Try.prog Γ) (sp : Spec) (h : ∀ args mem r mem1, sp args mem = some (r, mem1) → wpA Γ mem.length ac_51 (finQ mem.length rs_51 r mem1) (entry 0 args) mem) : CallOk Try.prog 51 sp :=
  ok_of_body (fn := Try.f51) (c := Try.f51.body.getD .skip) hΓ mix_ok (by kernel_rfl) (by kernel_rfl) ac_51_ok ⟨ac_51_chk, ac_51_pairs⟩ rs_51_ok (by kernel_rfl) sp h

/-- chantry/chantryref02.low -/
def ac_52 : ACode :=
 (.seq
  (.region false [] [⟨some 4, .mov (.c (.slice none 0 0)), none, []⟩])
 (.seq
  (.region false [] [⟨some 5, .mov (.c (.slice none 0 0)), none, []⟩])
 (.seq
  (.seq
   (.region false [] [⟨some 6, .mov (.c (.int .i64 0)), none, []⟩])
  (.block 0
   (.loop [0, 1, 5, 6]
    (.seq
     (.seq
      (.region false [] [⟨some 7, .mov (.t 6), none, []⟩, ⟨some 8, .mov (.t 1), none, []⟩, ⟨some 9, .bin false .lss (.t 7) (.t 8), none, [7, 8]⟩])
     (.cond (.t 9)
       (.drop [9]
        .skip)
       (.drop [0, 1, 6, 9]
        (.exit 0))))
    (.seq
     (.block 1
      (.seq
       (.region false [] [⟨some 12, .mov (.t 5), none, [5]⟩, ⟨some 13, .mov (.t 0), none, []⟩, ⟨some 14, .bin false .rem (.t 13) (.c (.int .u64 256)), none, [13]⟩, ⟨some 15, .cvt .u8 (.t 14), none, [14]⟩, ⟨some 16, .bsl 5 1 [.t 15], none, [15]⟩, ⟨some 17, .app 5 1 1 (.t 12) (.t 16), none, [12, 16]⟩, ⟨some 5, .mov (.t 17), none, [17]⟩])
      (.region false [] [⟨some 18, .mov (.t 0), none, [0]⟩, ⟨some 19, .bin false .quo (.t 18) (.c (.int .u64 256)), none, [18]⟩, ⟨some 0, .mov (.t 19), none, [19]⟩])))
    (.region false [] [⟨some 10, .mov (.t 6), none, [6]⟩, ⟨some 11, .bin false .add (.t 10) (.c (.int .i64 1)), none, [10]⟩, ⟨some 6, .mov (.t 11), none, [11]⟩]))))))
 (.seq
  (.region false [] [⟨some 20, .mov (.t 5), none, [5]⟩, ⟨some 4, .mov (.t 20), none, [20]⟩])
 .ret))))
def rs_52 : List ARes := [.tmp 4]
theorem ac_52_ok : compCode Try.prog (Try.f52.body.getD .skip) = some ac_52.plain := by kernel_rfl
theorem ac_52_chk : ac_52.chk ⟨Try.f52.ntmps, []⟩ = true := by kernel_rfl
theorem ac_52_pairs : ac_52.pairs.map Prod.fst = ac_52.pairs.map Prod.snd := by kernel_rfl
theorem rs_52_ok : Try.f52.results.toList.mapM (compRes Try.prog) = some rs_52 := by kernel_rfl
theorem ok_52 {Γ : Env} (hΓ : EnvOk Try.prog Γ) (sp : Spec) (h : ∀ args mem r mem1, sp args mem = some (r, mem1) → wpA Γ mem.length ac_52 (finQ mem.length rs_52 r mem1) (entry 0 args) mem) : CallOk Try.prog 52 sp :=
  ok_of_body (fn := Try.f52) (c := Try.f52.body.getD .skip) hΓ mix_ok (by kernel_rfl) (by kernel_rfl) ac_52_ok ⟨ac_52_chk, ac_52_pairs⟩ rs_52_ok (by kernel_rfl) sp h

/-- chantry/chantryref01.Code -/
def ac_53 : ACode :=
 (.seq
  (.region false [] [⟨some 2, .mov (.c (.int .u64 0)), none, []⟩])
 (.seq
  (.region false [] [⟨some 3, .mov (.t 0), none, [0]⟩, ⟨some 4, .call 43 [.t 3], none, [3]⟩, ⟨some 0, .mov (.t 4), none, [4]⟩])
 (.seq
  (.seq
   (.region false [] [⟨some 5, .mov (.t 0), none, []⟩, ⟨some 6, .bin false .geq (.t 5) (.c (.int .u64 9223372036854775808)), none, [5]⟩])
  (.cond (.t 6)
    (.drop [6]
     (.seq
      (.region false [] [⟨some 7, .mov (.t 0), none, [0]⟩, ⟨some 8, .bin false .sub (.c (.int .u64 18446744073709551615)) (.t 7), none, [7]⟩, ⟨some 2, .mov (.t 8), none, [8]⟩])
     .ret))
    (.drop [6]
     .skip)))
 (.seq
  (.region false [] [⟨some 9, .mov (.t 0), none, [0]⟩, ⟨some 10, .bin false .add (.t 9) (.c (.int .u64 9223372036854775808)), none, [9]⟩, ⟨some 2, .mov (.t 10), none, [10]⟩])
 .ret))))
def rs_53 : List ARes := [.tmp 2]
theorem ac_53_ok : compCode Try.prog (Try.f53.body.getD .skip) = some ac_53.plain := by kernel_rfl
theorem ac_53_chk : ac_53.chk ⟨Try.f53.ntmps, []⟩ = true := by kernel_rfl
theorem ac_53_pairs : ac_53.pairs.map Prod.fst = ac_53.pairs.map Prod.snd := by kernel_rfl
theorem rs_53_ok : Try.f53.results.toList.mapM (compRes Try.prog) = some rs_53 := by kernel_rfl
theorem ok_53 {Γ : Env} (hΓ : EnvOk Try.prog Γ) (sp : Spec) (h : ∀ args mem r mem1, sp args mem = some (r, mem1) → wpA Γ mem.length ac_53 (finQ mem.length rs_53 r mem1) (entry 0 args) mem) : CallOk Try.prog 53 sp :=
  ok_of_body (fn := Try.f53) (c := Try.f53.body.getD .skip) hΓ mix_ok (by kernel_rfl) (by kernel_rfl) ac_53_ok ⟨ac_53_chk, ac_53_pairs⟩ rs_53_ok (by kernel_rfl) sp h

end Go.Proofs.Ytifchnkhnphibaa.Am
