/-
  THE FUNCTIONS' ABSTRACT CODE, as Lean's own reduction of compCode printed it, with notes (genac.py); each is held against the translation by the kernel.
-/
import Derived.Test.YtbhbpahbopjfeaaProg
import Derived.Test.YtbhbpahbopjfeaaCode
namespace Go.Proofs.Ytbhbpahbopjfeaa.Am.Fr
set_option linter.unusedSimpArgs false
set_option linter.unusedVariables false
open Go Go.Proofs Go.Proofs.Ytbhbpahbopjfeaa.Am
set_option maxRecDepth 100000

/-- chantry/frame.Decode -/
def ac_30 : ACode :=
 (.seq
  (.region false [] [⟨some 2, .alloc [.int .i64 0, .int .u8 0, .int .i64 0, .int .i64 0, .string ⟨#[]⟩], none, []⟩, ⟨some 3, .mov (.c (.int .i64 0)), none, []⟩])
 (.seq
  (.region false [] [⟨some 10, .mov (.t 0), none, [0]⟩, ⟨some 11, .call 21 [.t 10], none, [10]⟩, ⟨some 9, .mov (.t 11), none, [11]⟩, ⟨some 12, .ext 0 (.t 9), none, []⟩, ⟨some 13, .ext 1 (.t 9), none, [9]⟩, ⟨some 4, .mov (.t 12), none, [12]⟩, ⟨some 5, .mov (.t 13), none, [13]⟩])
 (.seq
  (.seq
   (.region false [] [⟨some 14, .mov (.t 5), none, [5]⟩, ⟨some 15, .bin false .neq (.t 14) (.c (.int .i64 0)), none, [14]⟩, ⟨some 16, .mov (.t 15), none, [15]⟩, ⟨some 17, .mov (.t 4), some (16, false), []⟩, ⟨some 18, .bsl 3 1 [.c (.int .i64 1), .c (.int .i64 1), .c (.int .i64 1), .c (.int .i64 1), .c (.int .i64 2)], some (16, false), []⟩, ⟨some 19, .call 19 [.t 17, .t 18], some (16, false), [17, 18]⟩, ⟨some 20, .un .not (.t 19), some (16, false), [19]⟩, ⟨some 21, .pick (.t 16) (.c (.bool true)) (.t 20), none, [16, 20]⟩])
  (.cond (.t 21)
    (.drop [4, 21]
     (.seq
      (.region false [] [⟨some 22, .bld [.int .i64 0, .int .u8 0, .int .i64 0, .int .i64 0, .string ⟨#[]⟩] [], none, []⟩, ⟨none, .st 5 (.t 2) (.t 22), none, [22]⟩, ⟨some 3, .mov (.c (.int .i64 4)), none, []⟩])
     .ret))
    (.drop [21]
     .skip)))
 (.seq
  (.region false [] [⟨some 6, .alloc [.int .i64 0, .int .i64 0, .int .i64 0, .int .i64 0], none, []⟩])
 (.seq
  (.seq
   (.region false [] [⟨some 23, .mov (.c (.int .i64 0)), none, []⟩])
  (.block 0
   (.loop [2, 4, 6, 23]
    (.seq
     (.region false [] [⟨some 24, .bin false .lss (.t 23) (.c (.int .i64 4)), none, []⟩])
    (.seq
     (.cond (.t 24)
       (.drop [24]
        .skip)
       (.drop [23, 24]
        (.exit 0)))
    (.seq
     (.block 1
      (.seq
       (.region false [] [⟨some 25, .mov (.t 23), none, []⟩, ⟨some 7, .mov (.t 25), none, [25]⟩])
      (.region false [] [⟨some 26, .mov (.t 7), none, []⟩, ⟨some 27, .mov (.t 4), none, []⟩, ⟨some 28, .mov (.t 7), none, [7]⟩, ⟨some 29, .iax 4 (.t 27) (.t 28), none, [27, 28]⟩, ⟨some 30, .fad 1 (.t 29), none, [29]⟩, ⟨some 31, .ld false 1 (.t 30), none, [30]⟩, ⟨some 32, .mnn [.t 31, .c (.int .u64 1001)], none, [31]⟩, ⟨some 33, .cvt .i64 (.t 32), none, [32]⟩, ⟨some 34, .iaa 4 1 (.t 6) (.t 26), none, [26]⟩, ⟨none, .st 1 (.t 34) (.t 33), none, [33, 34]⟩])))
    (.region false [] [⟨some 35, .bin false .add (.t 23) (.c (.int .i64 1)), none, [23]⟩, ⟨some 23, .mov (.t 35), none, [35]⟩])))))))
 (.seal_ 6
  (.seq
   (.draws (.tak 0 ⟨some 36, .iaa 4 1 (.t 6) (.c (.int .i64 0)), none, []⟩ (.tak 1 ⟨some 37, .ld false 1 (.t 36), none, []⟩ (.tak 2 ⟨some 38, .iaa 4 1 (.t 6) (.c (.int .i64 1)), none, []⟩ (.tak 3 ⟨some 39, .ld false 1 (.t 38), none, []⟩ (.tak 4 ⟨some 40, .mnn [.t 39, .c (.int .i64 16)], none, []⟩ (.tak 5 ⟨some 41, .cvt .u8 (.t 40), none, []⟩ (.tak 6 ⟨some 42, .iaa 4 1 (.t 6) (.c (.int .i64 2)), none, []⟩ (.tak 7 ⟨some 43, .ld false 1 (.t 42), none, []⟩ (.tak 8 ⟨some 44, .bld [.int .i64 0, .int .u8 0, .int .i64 0] [(0, 1, .t 37), (1, 1, .t 41), (2, 1, .t 43)], none, []⟩ (.tak 9 ⟨some 45, .iaa 4 1 (.t 6) (.c (.int .i64 3)), none, []⟩ (.tak 10 ⟨some 46, .ld false 1 (.t 45), none, []⟩ (.tak 11 ⟨some 47, .mov (.t 4), none, []⟩ (.tak 12 ⟨some 48, .iax 4 (.t 47) (.c (.int .i64 4)), none, []⟩ (.tak 13 ⟨some 49, .fad 2 (.t 48), none, []⟩ (.tak 14 ⟨some 50, .ld false 1 (.t 49), none, []⟩ (.tak 15 ⟨some 51, .bld [.int .i64 0, .int .u8 0, .int .i64 0, .int .i64 0, .string ⟨#[]⟩] [(0, 3, .t 44), (3, 1, .t 46), (4, 1, .t 50)], none, []⟩ (.alt 16 ⟨some 8, .alloc [.int .i64 0, .int .u8 0, .int .i64 0, .int .i64 0, .string ⟨#[]⟩], none, []⟩ (.alt 17 ⟨none, .st 5 (.t 8) (.t 51), none, []⟩ .done .stop) .stop))))))))))))))))) [[], [0], [], [2], [3], [4], [], [6], [1, 5, 7], [], [9], [], [11], [12], [13], [8, 10, 14], [], [16, 15, 0, 1, 2, 3, 4, 5, 6, 7, 8, 9, 10, 11, 12, 13, 14, 15, 16]] [⟨some 36, .iaa 4 1 (.t 6) (.c (.int .i64 0)), none, []⟩, ⟨some 37, .ld false 1 (.t 36), none, []⟩, ⟨some 38, .iaa 4 1 (.t 6) (.c (.int .i64 1)), none, []⟩, ⟨some 39, .ld false 1 (.t 38), none, []⟩, ⟨some 40, .mnn [.t 39, .c (.int .i64 16)], none, []⟩, ⟨some 41, .cvt .u8 (.t 40), none, []⟩, ⟨some 42, .iaa 4 1 (.t 6) (.c (.int .i64 2)), none, []⟩, ⟨some 43, .ld false 1 (.t 42), none, []⟩, ⟨some 44, .bld [.int .i64 0, .int .u8 0, .int .i64 0] [(0, 1, .t 37), (1, 1, .t 41), (2, 1, .t 43)], none, []⟩, ⟨some 45, .iaa 4 1 (.t 6) (.c (.int .i64 3)), none, []⟩, ⟨some 46, .ld false 1 (.t 45), none, []⟩, ⟨some 47, .mov (.t 4), none, []⟩, ⟨some 48, .iax 4 (.t 47) (.c (.int .i64 4)), none, []⟩, ⟨some 49, .fad 2 (.t 48), none, []⟩, ⟨some 50, .ld false 1 (.t 49), none, []⟩, ⟨some 51, .bld [.int .i64 0, .int .u8 0, .int .i64 0, .int .i64 0, .string ⟨#[]⟩] [(0, 3, .t 44), (3, 1, .t 46), (4, 1, .t 50)], none, []⟩, ⟨some 8, .alloc [.int .i64 0, .int .u8 0, .int .i64 0, .int .i64 0, .string ⟨#[]⟩], none, []⟩, ⟨none, .st 5 (.t 8) (.t 51), none, []⟩])
  (.drop [4, 6, 36, 37, 38, 39, 40, 41, 42, 43, 44, 45, 46, 47, 48, 49, 50, 51]
   (.seq
    (.seq
     (.region false [] [⟨some 52, .ld true 5 (.t 8), none, []⟩, ⟨some 53, .call 32 [.t 52], none, [52]⟩, ⟨some 54, .un .not (.t 53), none, [53]⟩])
    (.cond (.t 54)
      (.drop [8, 54]
       (.seq
        (.region false [] [⟨some 55, .bld [.int .i64 0, .int .u8 0, .int .i64 0, .int .i64 0, .string ⟨#[]⟩] [], none, []⟩, ⟨none, .st 5 (.t 2) (.t 55), none, [55]⟩, ⟨some 3, .mov (.c (.int .i64 4)), none, []⟩])
       .ret))
      (.drop [54]
       .skip)))
   (.seq
    (.region false [] [⟨some 56, .ld true 5 (.t 8), none, [8]⟩, ⟨none, .st 5 (.t 2) (.t 56), none, [56]⟩, ⟨some 3, .mov (.c (.int .i64 0)), none, []⟩])
   .ret))))))))))
def rs_30 : List ARes := [.cell 2 true 5, .tmp 3]
theorem ac_30_ok : compCode Try.prog (Try.f30.body.getD .skip) = some ac_30.plain := by kernel_rfl
theorem ac_30_chk : ac_30.chk ⟨Try.f30.ntmps, []⟩ = true := by kernel_rfl
theorem ac_30_pairs : ac_30.pairs.map Prod.fst = ac_30.pairs.map Prod.snd := by kernel_rfl
theorem rs_30_ok : Try.f30.results.toList.mapM (compRes Try.prog) = some rs_30 := by kernel_rfl
theorem ok_30 {Γ : Env} (hΓ : EnvOk Try.prog Γ) (sp : Spec) (h : ∀ args mem r mem1, sp args mem = some (r, mem1) → wpA Γ mem.length ac_30 (finQ mem.length rs_30 r mem1) (entry 0 args) mem) : CallOk Try.prog 30 sp :=
  ok_of_body (fn := Try.f30) (c := Try.f30.body.getD .skip) hΓ mix_ok (by kernel_rfl) (by kernel_rfl) ac_30_ok ⟨ac_30_chk, ac_30_pairs⟩ rs_30_ok (by kernel_rfl) sp h

/-- chantry/pack.Is -/
def ac_19 : ACode :=
 (.seq
  (.region false [] [⟨some 4, .mov (.c (.bool false)), none, []⟩])
 (.seq
  (.seq
   (.region false [] [⟨some 7, .mov (.t 0), none, []⟩, ⟨some 8, .len false (.t 7), none, [7]⟩, ⟨some 9, .mov (.t 1), none, []⟩, ⟨some 10, .len false (.t 9), none, [9]⟩, ⟨some 11, .bin false .neq (.t 8) (.t 10), none, [8, 10]⟩])
  (.cond (.t 11)
    (.drop [0, 1, 11]
     (.seq
      (.region false [] [⟨some 4, .mov (.c (.bool false)), none, []⟩])
     .ret))
    (.drop [11]
     .skip)))
 (.seq
  (.seq
   (.region false [] [⟨some 12, .mov (.t 0), none, [0]⟩, ⟨some 13, .len false (.t 12), none, []⟩, ⟨some 14, .mov (.c (.int .i64 0)), none, []⟩])
  (.block 0
   (.loop [1, 12, 13, 14]
    (.seq
     (.region false [] [⟨some 15, .bin false .lss (.t 14) (.t 13), none, []⟩])
    (.seq
     (.cond (.t 15)
       (.drop [15]
        .skip)
       (.drop [1, 12, 13, 14, 15]
        (.exit 0)))
    (.seq
     (.block 1
      (.seq
       (.region false [] [⟨some 16, .mov (.t 14), none, []⟩, ⟨some 17, .iax 4 (.t 12) (.t 14), none, []⟩, ⟨some 18, .ld true 4 (.t 17), none, [17]⟩, ⟨some 6, .alloc [.int .i64 0, .int .u64 0, .string ⟨#[]⟩, .float .f64 0], none, []⟩, ⟨some 5, .mov (.t 16), none, [16]⟩, ⟨none, .st 4 (.t 6) (.t 18), none, [18]⟩])
      (.seal_ 6
       (.seq
        (.draws (.tak 0 ⟨some 19, .fad 0 (.t 6), none, []⟩ (.tak 1 ⟨some 20, .ld false 1 (.t 19), none, []⟩ (.tak 2 ⟨some 21, .mov (.t 1), none, []⟩ (.tak 3 ⟨some 22, .mov (.t 5), none, []⟩ (.alt 4 ⟨some 23, .iax 1 (.t 21) (.t 22), none, []⟩ (.alt 5 ⟨some 24, .ld false 1 (.t 23), none, []⟩ (.tak 6 ⟨some 25, .bin false .neq (.t 20) (.t 24), none, []⟩ .done) .stop) .stop))))) [[], [0], [], [], [2, 3], [4], [1, 5]] [⟨some 19, .fad 0 (.t 6), none, []⟩, ⟨some 20, .ld false 1 (.t 19), none, []⟩, ⟨some 21, .mov (.t 1), none, []⟩, ⟨some 22, .mov (.t 5), none, []⟩, ⟨some 23, .iax 1 (.t 21) (.t 22), none, []⟩, ⟨some 24, .ld false 1 (.t 23), none, []⟩, ⟨some 25, .bin false .neq (.t 20) (.t 24), none, []⟩])
       (.drop [5, 6, 19, 20, 21, 22, 23, 24]
        (.cond (.t 25)
          (.drop [1, 12, 13, 14, 25]
           (.seq
            (.region false [] [⟨some 4, .mov (.c (.bool false)), none, []⟩])
           .ret))
          (.drop [25]
           .skip)))))))
    (.region false [] [⟨some 26, .bin false .add (.t 14) (.c (.int .i64 1)), none, [14]⟩, ⟨some 14, .mov (.t 26), none, [26]⟩])))))))
 (.seq
  (.region false [] [⟨some 4, .mov (.c (.bool true)), none, []⟩])
 .ret))))
def rs_19 : List ARes := [.tmp 4]
theorem ac_19_ok : compCode Try.prog (Try.f19.body.getD .skip) = some ac_19.plain := by kernel_rfl
theorem ac_19_chk : ac_19.chk ⟨Try.f19.ntmps, []⟩ = true := by kernel_rfl
theorem ac_19_pairs : ac_19.pairs.map Prod.fst = ac_19.pairs.map Prod.snd := by kernel_rfl
theorem rs_19_ok : Try.f19.results.toList.mapM (compRes Try.prog) = some rs_19 := by kernel_rfl
theorem ok_19 {Γ : Env} (hΓ : EnvOk Try.prog Γ) (sp : Spec) (h : ∀ args mem r mem1, sp args mem = some (r, mem1) → wpA Γ mem.length ac_19 (finQ mem.length rs_19 r mem1) (entry 0 args) mem) : CallOk Try.prog 19 sp :=
  ok_of_body (fn := Try.f19) (c := Try.f19.body.getD .skip) hΓ mix_ok (by kernel_rfl) (by kernel_rfl) ac_19_ok ⟨ac_19_chk, ac_19_pairs⟩ rs_19_ok (by kernel_rfl) sp h

end Go.Proofs.Ytbhbpahbopjfeaa.Am.Fr
