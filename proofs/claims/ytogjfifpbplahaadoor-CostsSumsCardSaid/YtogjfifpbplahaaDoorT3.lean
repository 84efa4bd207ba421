/- Text's edges; the reference's Digits, walked. -/
import Derived.Test.YtogjfifpbplahaaDoorT2
import Derived.Test.YtogjfifpbplahaaDoorH1
namespace Go.Proofs.YtogjfifpbplahaaDoor
open Go.RowKit Go.Shelf
open CM
set_option linter.unusedVariables false
attribute [local go_sem] Oper.semAt_some

set_option maxRecDepth 100000 in
set_option maxHeartbeats 1000000 in
theorem text_bad (n c : Nat) (a0 : Option Addr) (U : Nat → Nat → Int) (w : World) (hE : listE n U ≠ 0) (h : Uses w a0 n U) :
    Calls Tryd.prog 12 #[.slice a0 n c] w (Ret (.tuple #[.string ⟨#[]⟩, .int .i64 (listE n U)]) w) := by
  have HL := Lib.hid (check_walk n c a0 U w h)
  generalize listE n U = E at *
  have e1 : (E != 0) = true := by simp [hE]
  clear hE h
  go_enter Tryd.func12, Tryd.ntmps12
  go_wp2_with (go_at_call 16; go_must (refine HL.out.mono ?_; rintro e w1 ⟨rfl, hF⟩; have HF1 := Lib.hid hF; clear hF))
  exact bodyPost_ret (v := .tuple #[.string ⟨#[]⟩, .int .i64 E]) (by simp [results, Tryd.results12, go_sem]) rfl ⟨rfl, HF1.out⟩
theorem text_walk (n c : Nat) (a0 : Option Addr) (U : Nat → Nat → Int) (w : World) (hP : PTab w) (h : Uses w a0 n U) :
    Calls Tryd.prog 12 #[.slice a0 n c] w (Ret (textV n U) w) := by
  unfold textV
  by_cases hE : listE n U = 0
  · rw [if_pos hE]
    rw [hE]
    by_cases h0 : 0 < n
    · obtain ⟨b, o, rfl, hb, hc⟩ := h h0
      exact text_ok n c b o _ U w hP hE (Lib.hid h) (fun _ => rfl) (fun _ => hb) (Lib.hid hc)
    · exact text_ok n c 0 0 _ U w hP hE (Lib.hid h) (fun hn => absurd hn h0) (fun hn => absurd hn h0) (Lib.hid (fun i j hi => by omega))
  · rw [if_neg hE]
    exact text_bad n c a0 U w hE h

theorem itoa_one {z : Int} (h0 : 0 ≤ z) (h9 : z ≤ 9) : Lib.itoa z = [UInt8.ofNat (48 + z).toNat] := by
  unfold Lib.itoa
  rw [if_neg (by omega), Lib.decDigits, dif_pos (by omega)]
  congr 2
  omega
theorem itoa_neg {z : Int} (h0 : z < 0) (h9 : -9 ≤ z) : Lib.itoa z = 45 :: Lib.itoa (-z) := by
  unfold Lib.itoa
  rw [if_pos h0, if_neg (by omega)]
  congr 2
  omega
theorem itoa_big {z : Int} (h9 : 9 < z) : Lib.itoa z = Lib.itoa (z.tdiv 10) ++ [UInt8.ofNat (48 + z.tmod 10).toNat] := by
  obtain ⟨m, rfl⟩ : ∃ m : Nat, z = m := ⟨z.toNat, by omega⟩
  have e1 : (m : Int).tdiv 10 = ((m / 10 : Nat) : Int) := by rw [Int.tdiv_eq_ediv_of_nonneg (by omega)]; rfl
  have e2 : (m : Int).tmod 10 = ((m % 10 : Nat) : Int) := by rw [Int.tmod_eq_emod_of_nonneg (by omega)]; rfl
  rw [e1, e2]
  unfold Lib.itoa
  rw [if_neg (by omega), if_neg (by omega), Int.toNat_natCast, Int.toNat_natCast, Lib.decDigits, dif_neg (by omega)]
  congr 3
theorem itoa_low {z : Int} (h9 : z < -9) : Lib.itoa z = Lib.itoa (z.tdiv 10) ++ [UInt8.ofNat (48 + -(z.tmod 10)).toNat] := by
  obtain ⟨m, rfl⟩ : ∃ m : Nat, z = -(m : Int) := ⟨z.natAbs, by omega⟩
  have e1 : (-(m : Int)).tdiv 10 = -((m / 10 : Nat) : Int) := by rw [Int.neg_tdiv, Int.tdiv_eq_ediv_of_nonneg (by omega)]; rfl
  have e2 : (-(m : Int)).tmod 10 = -((m % 10 : Nat) : Int) := by rw [Int.neg_tmod, Int.tmod_eq_emod_of_nonneg (by omega)]; rfl
  rw [e1, e2]
  unfold Lib.itoa
  rw [if_pos (by omega), if_pos (by omega), Int.natAbs_neg, Int.natAbs_natCast, Int.natAbs_neg, Int.natAbs_natCast, Lib.decDigits, dif_neg (by omega)]
  have e3 : (48 + -(-((m % 10 : Nat) : Int))).toNat = 48 + m % 10 := by omega
  rw [e3]
  rfl

theorem conv_one (w : World) (b : Nat) (x : Int) (h0 : 0 ≤ x) (h1 : x ≤ 255) (h : w.cell? ⟨b, 0, none⟩ = some (.int .u8 x)) : (convert 60 9 (.slice (some ⟨b, 0, none⟩) 1 1)).run Tryd.prog w = .ok (.string ⟨#[UInt8.ofNat x.toNat]⟩) w := by
  refine run_convert_bytes_back w 60 9 5 ⟨b, 0, none⟩ 1 [UInt8.ofNat x.toNat] Tryd.underlying60 Tryd.underlying5 Tryd.underlying9 ?_
  intro j hj
  match j, hj with
  | 0, _ =>
    have : ((UInt8.ofNat x.toNat).toNat : Int) = x := by
      rw [UInt8.toNat_ofNat']
      omega
    show w.cell? (Addr.add _ 0) = some (.int .u8 ((UInt8.ofNat x.toNat).toNat : Int))
    rw [this]
    simpa [Addr.add] using h
set_option maxRecDepth 100000 in
set_option maxHeartbeats 1000000 in
theorem digits_one (z : Int) (h0 : 0 ≤ z) (h9 : z ≤ 9) (w : World) : Calls Tryd.prog 29 #[.int .i64 z] w (Ret (.string ⟨(Lib.itoa z).toArray⟩) w) := by
  rw [itoa_one h0 h9]
  have hcv := conv_one (w.alloc (Obj.cells #[Value.int IntKind.u8 (48 + z)] 5)) w.heap.size (48 + z) (by omega) (by omega) (by simp)
  go_enter Tryd.func29, Tryd.ntmps29
  go_wp2
  exact bodyPost_ret (v := .string ⟨#[UInt8.ofNat (48 + z).toNat]⟩) (by simp [results, Tryd.results29, go_sem]) rfl ⟨rfl, (Fr.refl _ w).alloc _⟩
set_option maxRecDepth 100000 in
set_option maxHeartbeats 4000000 in
theorem digits_up (z q d : Int) (w : World) (hz : z ≤ 1000000) (h : 9 < z) (hq : z.tdiv 10 = q) (hd : z.tmod 10 = d) (hd0 : 0 ≤ d) (hd9 : d ≤ 9) (hq0 : 0 ≤ q) (hq1 : q ≤ 1000000)
    (ih : ∀ w0, Calls Tryd.prog 29 #[.int .i64 q] w0 (Ret (.string ⟨(Lib.itoa q).toArray⟩) w0)) :
    Calls Tryd.prog 29 #[.int .i64 z] w (Ret (.string ⟨(Lib.itoa q ++ [UInt8.ofNat (48 + d).toNat]).toArray⟩) w) := by
  have IH := Lib.hid ih
  have HCV := Lib.hid (fun (w0 : World) (b : Nat) => conv_one w0 b (48 + d) (by omega) (by omega))
  have hw1 : IntKind.i64.wrap q = q := by rw [IntKind.wrap_i64]; omega
  have hw2 : IntKind.i64.wrap (48 + d) = 48 + d := by rw [IntKind.wrap_i64]; omega
  have hw3 : IntKind.u8.wrap (48 + d) = 48 + d := wraps_u8 _ (by omega) (by omega)
  have hln : ¬ 9223372036854775807 < (Lib.itoa q).length + 1 := by have := Lib.itoa_length_le q (by omega) (by omega); omega
  obtain ⟨T, hT⟩ : ∃ T : ByteArray, (⟨(Lib.itoa q ++ [UInt8.ofNat (48 + d).toNat]).toArray⟩ : ByteArray) = T := ⟨_, rfl⟩
  have hct : ((⟨(Lib.itoa q).toArray⟩ : ByteArray) ++ ⟨#[UInt8.ofNat (48 + d).toNat]⟩) = T := by
    rw [← hT]
    apply ByteArray.ext
    simp
  rw [hT]
  clear hT
  clear ih
  go_enter Tryd.func29, Tryd.ntmps29
  go_upto_region 5 with (fail)
  refine wp_region_noPanic ?_
  refine wp_region_held_drew (S := fun _ => True) (by kernel_rfl) trivial (fun hS => ?_)
  refine held_take (i := 0) (v := ?vu0) rfl (by kernel_rfl) (by kernel_rfl) (by kernel_rfl) (fun _ _ _ h => h) (by rfl) ?hu0 hS ?ru0
  case hu0 => intro w0 hS0; first | (go_simp; done) | (go_simp; with_reducible rfl)
  try simp only [Act.put, List.setIfInBounds_toArray, List.set_cons_zero, List.set_cons_succ]
  refine held_take (i := 1) (v := ?vu1) rfl (by kernel_rfl) (by kernel_rfl) (by kernel_rfl) (fun _ _ _ h => h) (by rfl) ?hu1 hS ?ru1
  case hu1 => intro w0 hS0; first | (go_simp; done) | (go_simp; with_reducible rfl)
  try simp only [Act.put, List.setIfInBounds_toArray, List.set_cons_zero, List.set_cons_succ]
  refine held_take (i := 3) (v := ?vu2) rfl (by kernel_rfl) (by kernel_rfl) (by kernel_rfl) (fun _ _ _ h => h) (by rfl) ?hu2 hS ?ru2
  case hu2 => intro w0 hS0; first | (go_simp; done) | (go_simp; with_reducible rfl)
  try simp only [Act.put, List.setIfInBounds_toArray, List.set_cons_zero, List.set_cons_succ]
  refine held_take (i := 4) (v := ?vu3) rfl (by kernel_rfl) (by kernel_rfl) (by kernel_rfl) (fun _ _ _ h => h) (by rfl) ?hu3 hS ?ru3
  case hu3 => intro w0 hS0; first | (go_simp; done) | (go_simp; with_reducible rfl)
  try simp only [Act.put, List.setIfInBounds_toArray, List.set_cons_zero, List.set_cons_succ]
  refine held_take (i := 5) (v := ?vu4) rfl (by kernel_rfl) (by kernel_rfl) (by kernel_rfl) (fun _ _ _ h => h) (by rfl) ?hu4 hS ?ru4
  case hu4 => intro w0 hS0; first | (go_simp; done) | (go_simp; with_reducible rfl)
  try simp only [Act.put, List.setIfInBounds_toArray, List.set_cons_zero, List.set_cons_succ]
  refine held_two (i := 2) (j := 6) rfl rfl (by kernel_rfl) (by rfl) (by rfl) (fun K hK => ?_) (fun K hK => ?_)
  · go_simp
    go_at_call 29; refine (IH.out _).mono ?_; rintro e w2 ⟨rfl, hG⟩; have HG := Lib.hid hG; clear hG
    go_wp2_with fail
    refine hK.out _ _ trivial ?_
    clear hK K
    try simp only [Act.put, List.setIfInBounds_toArray, List.set_cons_zero, List.set_cons_succ]
    refine held_step (i := 6) rfl (by kernel_rfl) (by rfl) (fun K hK => ?_)
    go_simp
    go_wp2_with fail
    refine hK.out _ _ trivial ?_
    clear hK K
    try simp only [Act.put, List.setIfInBounds_toArray, List.set_cons_zero, List.set_cons_succ]
    refine held_mono (S' := fun w' => w'.cell? ⟨w2.heap.size, 0, none⟩ = some (Value.int .u8 (48 + d))) (fun _ _ => trivial) _ _ _ _ ?_
    clear hS; have hS := (show (w2.alloc (Obj.cells #[Value.int .u8 (48 + d)] 5)).cell? ⟨w2.heap.size, 0, none⟩ = some (Value.int .u8 (48 + d)) by simp)
    refine held_take (i := 7) (v := ?vua0) rfl (by kernel_rfl) (by kernel_rfl) (by kernel_rfl) (fun _ _ _ h => h) (by rfl) ?hua0 hS ?rua0
    case hua0 => intro w0 hS0; have cv := HCV.out w0 w2.heap.size hS0; first | (go_simp; done) | (go_simp; with_reducible rfl)
    try simp only [Act.put, List.setIfInBounds_toArray, List.set_cons_zero, List.set_cons_succ]
    refine held_take (i := 8) (v := ?vua1) rfl (by kernel_rfl) (by kernel_rfl) (by kernel_rfl) (fun _ _ _ h => h) (by rfl) ?hua1 hS ?rua1
    case hua1 => intro w0 hS0; first | (go_simp; done) | (go_simp; with_reducible rfl)
    try simp only [Act.put, List.setIfInBounds_toArray, List.set_cons_zero, List.set_cons_succ]
    refine held_take (i := 9) (v := ?vua2) rfl (by kernel_rfl) (by kernel_rfl) (by kernel_rfl) (fun _ _ _ h => h) (by rfl) ?hua2 hS ?rua2
    case hua2 => intro w0 hS0; first | (go_simp; done) | (go_simp; with_reducible rfl)
    try simp only [Act.put, List.setIfInBounds_toArray, List.set_cons_zero, List.set_cons_succ]
    refine held_done (by kernel_rfl) ?_
    refine NoPanic.normal ?_
    go_wp2_with fail
    refine bodyPost_ret (v := .string T) (by simp [results, Tryd.results29, go_sem]) rfl ⟨rfl, ?_⟩
    exact ((Fr.refl _ w).drew.then HG.out).alloc _
  · go_simp
    go_wp2_with fail
    refine hK.out _ _ trivial ?_
    clear hK K
    try simp only [Act.put, List.setIfInBounds_toArray, List.set_cons_zero, List.set_cons_succ]
    refine held_mono (S' := fun w' => w'.cell? ⟨w.heap.size, 0, none⟩ = some (Value.int .u8 (48 + d))) (fun _ _ => trivial) _ _ _ _ ?_
    clear hS; have hS := (show (w.alloc (Obj.cells #[Value.int .u8 (48 + d)] 5)).cell? ⟨w.heap.size, 0, none⟩ = some (Value.int .u8 (48 + d)) by simp)
    refine held_take (i := 7) (v := ?vub0) rfl (by kernel_rfl) (by kernel_rfl) (by kernel_rfl) (fun _ _ _ h => h) (by rfl) ?hub0 hS ?rub0
    case hub0 => intro w0 hS0; have cv := HCV.out w0 w.heap.size hS0; first | (go_simp; done) | (go_simp; with_reducible rfl)
    try simp only [Act.put, List.setIfInBounds_toArray, List.set_cons_zero, List.set_cons_succ]
    refine held_step (i := 2) rfl (by kernel_rfl) (by rfl) (fun K hK => ?_)
    go_simp
    go_at_call 29; refine (IH.out _).mono ?_; rintro e w2 ⟨rfl, hG⟩; have HG := Lib.hid hG; clear hG
    go_wp2_with fail
    refine hK.out _ _ (HG.out.cell (by simp) (fun h => h) hS) ?_
    clear hK K
    try simp only [Act.put, List.setIfInBounds_toArray, List.set_cons_zero, List.set_cons_succ]
    have hS : w2.cell? ⟨w.heap.size, 0, none⟩ = some (Value.int .u8 (48 + d)) := HG.out.cell (by simp) (fun h => h) hS
    refine held_take (i := 8) (v := ?vub1) rfl (by kernel_rfl) (by kernel_rfl) (by kernel_rfl) (fun _ _ _ h => h) (by rfl) ?hub1 hS ?rub1
    case hub1 => intro w0 hS0; first | (go_simp; done) | (go_simp; with_reducible rfl)
    try simp only [Act.put, List.setIfInBounds_toArray, List.set_cons_zero, List.set_cons_succ]
    refine held_take (i := 9) (v := ?vub2) rfl (by kernel_rfl) (by kernel_rfl) (by kernel_rfl) (fun _ _ _ h => h) (by rfl) ?hub2 hS ?rub2
    case hub2 => intro w0 hS0; first | (go_simp; done) | (go_simp; with_reducible rfl)
    try simp only [Act.put, List.setIfInBounds_toArray, List.set_cons_zero, List.set_cons_succ]
    refine held_done (by kernel_rfl) ?_
    refine NoPanic.normal ?_
    go_wp2_with fail
    refine bodyPost_ret (v := .string T) (by simp [results, Tryd.results29, go_sem]) rfl ⟨rfl, ?_⟩
    exact ((Fr.refl _ w).drew.alloc _).then HG.out
set_option maxRecDepth 100000 in
set_option maxHeartbeats 4000000 in
theorem digits_flat (z q d : Int) (w : World) (hz : -1000000 ≤ z) (h : z < -9) (hq : z.tdiv 10 = q) (hd : z.tmod 10 = d) (hd0 : 0 ≤ d) (hd9 : d ≤ 9) (hq0 : -1000000 ≤ q) (hq1 : q ≤ 0)
    (ih : ∀ w0, Calls Tryd.prog 29 #[.int .i64 q] w0 (Ret (.string ⟨(Lib.itoa q).toArray⟩) w0)) :
    Calls Tryd.prog 29 #[.int .i64 z] w (Ret (.string ⟨(Lib.itoa q ++ [UInt8.ofNat (48 + d).toNat]).toArray⟩) w) := by
  have IH := Lib.hid ih
  have HCV := Lib.hid (fun (w0 : World) (b : Nat) => conv_one w0 b (48 + d) (by omega) (by omega))
  have hw1 : IntKind.i64.wrap q = q := by rw [IntKind.wrap_i64]; omega
  have hw2 : IntKind.i64.wrap (48 + d) = 48 + d := by rw [IntKind.wrap_i64]; omega
  have hw3 : IntKind.u8.wrap (48 + d) = 48 + d := wraps_u8 _ (by omega) (by omega)
  have hln : ¬ 9223372036854775807 < (Lib.itoa q).length + 1 := by have := Lib.itoa_length_le q (by omega) (by omega); omega
  obtain ⟨T, hT⟩ : ∃ T : ByteArray, (⟨(Lib.itoa q ++ [UInt8.ofNat (48 + d).toNat]).toArray⟩ : ByteArray) = T := ⟨_, rfl⟩
  have hct : ((⟨(Lib.itoa q).toArray⟩ : ByteArray) ++ ⟨#[UInt8.ofNat (48 + d).toNat]⟩) = T := by
    rw [← hT]
    apply ByteArray.ext
    simp
  rw [hT]
  clear hT
  clear ih
  go_enter Tryd.func29, Tryd.ntmps29
  go_upto_region 5 with (fail)
  refine wp_region_noPanic ?_
  refine wp_region_held_drew (S := fun _ => True) (by kernel_rfl) trivial (fun hS => ?_)
  refine held_take (i := 0) (v := ?vv0) rfl (by kernel_rfl) (by kernel_rfl) (by kernel_rfl) (fun _ _ _ h => h) (by rfl) ?hv0 hS ?rv0
  case hv0 => intro w0 hS0; first | (go_simp; done) | (go_simp; with_reducible rfl)
  try simp only [Act.put, List.setIfInBounds_toArray, List.set_cons_zero, List.set_cons_succ]
  refine held_take (i := 1) (v := ?vv1) rfl (by kernel_rfl) (by kernel_rfl) (by kernel_rfl) (fun _ _ _ h => h) (by rfl) ?hv1 hS ?rv1
  case hv1 => intro w0 hS0; first | (go_simp; done) | (go_simp; with_reducible rfl)
  try simp only [Act.put, List.setIfInBounds_toArray, List.set_cons_zero, List.set_cons_succ]
  refine held_take (i := 3) (v := ?vv2) rfl (by kernel_rfl) (by kernel_rfl) (by kernel_rfl) (fun _ _ _ h => h) (by rfl) ?hv2 hS ?rv2
  case hv2 => intro w0 hS0; first | (go_simp; done) | (go_simp; with_reducible rfl)
  try simp only [Act.put, List.setIfInBounds_toArray, List.set_cons_zero, List.set_cons_succ]
  refine held_take (i := 4) (v := ?vv3) rfl (by kernel_rfl) (by kernel_rfl) (by kernel_rfl) (fun _ _ _ h => h) (by rfl) ?hv3 hS ?rv3
  case hv3 => intro w0 hS0; first | (go_simp; done) | (go_simp; with_reducible rfl)
  try simp only [Act.put, List.setIfInBounds_toArray, List.set_cons_zero, List.set_cons_succ]
  refine held_take (i := 5) (v := ?vv4) rfl (by kernel_rfl) (by kernel_rfl) (by kernel_rfl) (fun _ _ _ h => h) (by rfl) ?hv4 hS ?rv4
  case hv4 => intro w0 hS0; first | (go_simp; done) | (go_simp; with_reducible rfl)
  try simp only [Act.put, List.setIfInBounds_toArray, List.set_cons_zero, List.set_cons_succ]
  refine held_two (i := 2) (j := 6) rfl rfl (by kernel_rfl) (by rfl) (by rfl) (fun K hK => ?_) (fun K hK => ?_)
  · go_simp
    go_at_call 29; refine (IH.out _).mono ?_; rintro e w2 ⟨rfl, hG⟩; have HG := Lib.hid hG; clear hG
    go_wp2_with fail
    refine hK.out _ _ trivial ?_
    clear hK K
    try simp only [Act.put, List.setIfInBounds_toArray, List.set_cons_zero, List.set_cons_succ]
    refine held_step (i := 6) rfl (by kernel_rfl) (by rfl) (fun K hK => ?_)
    go_simp
    go_wp2_with fail
    refine hK.out _ _ trivial ?_
    clear hK K
    try simp only [Act.put, List.setIfInBounds_toArray, List.set_cons_zero, List.set_cons_succ]
    refine held_mono (S' := fun w' => w'.cell? ⟨w2.heap.size, 0, none⟩ = some (Value.int .u8 (48 + d))) (fun _ _ => trivial) _ _ _ _ ?_
    clear hS; have hS := (show (w2.alloc (Obj.cells #[Value.int .u8 (48 + d)] 5)).cell? ⟨w2.heap.size, 0, none⟩ = some (Value.int .u8 (48 + d)) by simp)
    refine held_take (i := 7) (v := ?vva0) rfl (by kernel_rfl) (by kernel_rfl) (by kernel_rfl) (fun _ _ _ h => h) (by rfl) ?hva0 hS ?rva0
    case hva0 => intro w0 hS0; have cv := HCV.out w0 w2.heap.size hS0; first | (go_simp; done) | (go_simp; with_reducible rfl)
    try simp only [Act.put, List.setIfInBounds_toArray, List.set_cons_zero, List.set_cons_succ]
    refine held_take (i := 8) (v := ?vva1) rfl (by kernel_rfl) (by kernel_rfl) (by kernel_rfl) (fun _ _ _ h => h) (by rfl) ?hva1 hS ?rva1
    case hva1 => intro w0 hS0; first | (go_simp; done) | (go_simp; with_reducible rfl)
    try simp only [Act.put, List.setIfInBounds_toArray, List.set_cons_zero, List.set_cons_succ]
    refine held_take (i := 9) (v := ?vva2) rfl (by kernel_rfl) (by kernel_rfl) (by kernel_rfl) (fun _ _ _ h => h) (by rfl) ?hva2 hS ?rva2
    case hva2 => intro w0 hS0; first | (go_simp; done) | (go_simp; with_reducible rfl)
    try simp only [Act.put, List.setIfInBounds_toArray, List.set_cons_zero, List.set_cons_succ]
    refine held_done (by kernel_rfl) ?_
    refine NoPanic.normal ?_
    go_wp2_with fail
    refine bodyPost_ret (v := .string T) (by simp [results, Tryd.results29, go_sem]) rfl ⟨rfl, ?_⟩
    exact ((Fr.refl _ w).drew.then HG.out).alloc _
  · go_simp
    go_wp2_with fail
    refine hK.out _ _ trivial ?_
    clear hK K
    try simp only [Act.put, List.setIfInBounds_toArray, List.set_cons_zero, List.set_cons_succ]
    refine held_mono (S' := fun w' => w'.cell? ⟨w.heap.size, 0, none⟩ = some (Value.int .u8 (48 + d))) (fun _ _ => trivial) _ _ _ _ ?_
    clear hS; have hS := (show (w.alloc (Obj.cells #[Value.int .u8 (48 + d)] 5)).cell? ⟨w.heap.size, 0, none⟩ = some (Value.int .u8 (48 + d)) by simp)
    refine held_take (i := 7) (v := ?vvb0) rfl (by kernel_rfl) (by kernel_rfl) (by kernel_rfl) (fun _ _ _ h => h) (by rfl) ?hvb0 hS ?rvb0
    case hvb0 => intro w0 hS0; have cv := HCV.out w0 w.heap.size hS0; first | (go_simp; done) | (go_simp; with_reducible rfl)
    try simp only [Act.put, List.setIfInBounds_toArray, List.set_cons_zero, List.set_cons_succ]
    refine held_step (i := 2) rfl (by kernel_rfl) (by rfl) (fun K hK => ?_)
    go_simp
    go_at_call 29; refine (IH.out _).mono ?_; rintro e w2 ⟨rfl, hG⟩; have HG := Lib.hid hG; clear hG
    go_wp2_with fail
    refine hK.out _ _ (HG.out.cell (by simp) (fun h => h) hS) ?_
    clear hK K
    try simp only [Act.put, List.setIfInBounds_toArray, List.set_cons_zero, List.set_cons_succ]
    have hS : w2.cell? ⟨w.heap.size, 0, none⟩ = some (Value.int .u8 (48 + d)) := HG.out.cell (by simp) (fun h => h) hS
    refine held_take (i := 8) (v := ?vvb1) rfl (by kernel_rfl) (by kernel_rfl) (by kernel_rfl) (fun _ _ _ h => h) (by rfl) ?hvb1 hS ?rvb1
    case hvb1 => intro w0 hS0; first | (go_simp; done) | (go_simp; with_reducible rfl)
    try simp only [Act.put, List.setIfInBounds_toArray, List.set_cons_zero, List.set_cons_succ]
    refine held_take (i := 9) (v := ?vvb2) rfl (by kernel_rfl) (by kernel_rfl) (by kernel_rfl) (fun _ _ _ h => h) (by rfl) ?hvb2 hS ?rvb2
    case hvb2 => intro w0 hS0; first | (go_simp; done) | (go_simp; with_reducible rfl)
    try simp only [Act.put, List.setIfInBounds_toArray, List.set_cons_zero, List.set_cons_succ]
    refine held_done (by kernel_rfl) ?_
    refine NoPanic.normal ?_
    go_wp2_with fail
    refine bodyPost_ret (v := .string T) (by simp [results, Tryd.results29, go_sem]) rfl ⟨rfl, ?_⟩
    exact ((Fr.refl _ w).drew.alloc _).then HG.out
set_option maxRecDepth 100000 in
set_option maxHeartbeats 4000000 in
theorem digits_down (z q d : Int) (w : World) (hz : -1000000 ≤ z) (h : z < -9) (hq : z.tdiv 10 = q) (hd : z.tmod 10 = -d) (hd0 : 0 < d) (hd9 : d ≤ 9) (hq0 : -1000000 ≤ q) (hq1 : q ≤ 0)
    (ih : ∀ w0, Calls Tryd.prog 29 #[.int .i64 q] w0 (Ret (.string ⟨(Lib.itoa q).toArray⟩) w0)) :
    Calls Tryd.prog 29 #[.int .i64 z] w (Ret (.string ⟨(Lib.itoa q ++ [UInt8.ofNat (48 + d).toNat]).toArray⟩) w) := by
  have IH := Lib.hid ih
  have HCV := Lib.hid (fun (w0 : World) (b : Nat) => conv_one w0 b (48 + d) (by omega) (by omega))
  have hw1 : IntKind.i64.wrap q = q := by rw [IntKind.wrap_i64]; omega
  have hw2 : IntKind.i64.wrap (48 + d) = 48 + d := by rw [IntKind.wrap_i64]; omega
  have hw3 : IntKind.u8.wrap (48 + d) = 48 + d := wraps_u8 _ (by omega) (by omega)
  have hln : ¬ 9223372036854775807 < (Lib.itoa q).length + 1 := by have := Lib.itoa_length_le q (by omega) (by omega); omega
  obtain ⟨T, hT⟩ : ∃ T : ByteArray, (⟨(Lib.itoa q ++ [UInt8.ofNat (48 + d).toNat]).toArray⟩ : ByteArray) = T := ⟨_, rfl⟩
  have hct : ((⟨(Lib.itoa q).toArray⟩ : ByteArray) ++ ⟨#[UInt8.ofNat (48 + d).toNat]⟩) = T := by
    rw [← hT]
    apply ByteArray.ext
    simp
  rw [hT]
  clear hT
  clear ih
  go_enter Tryd.func29, Tryd.ntmps29
  go_upto_region 5 with (fail)
  refine wp_region_noPanic ?_
  refine wp_region_held_drew (S := fun _ => True) (by kernel_rfl) trivial (fun hS => ?_)
  refine held_take (i := 0) (v := ?vy0) rfl (by kernel_rfl) (by kernel_rfl) (by kernel_rfl) (fun _ _ _ h => h) (by rfl) ?hy0 hS ?ry0
  case hy0 => intro w0 hS0; first | (go_simp; done) | (go_simp; with_reducible rfl)
  try simp only [Act.put, List.setIfInBounds_toArray, List.set_cons_zero, List.set_cons_succ]
  refine held_take (i := 1) (v := ?vy1) rfl (by kernel_rfl) (by kernel_rfl) (by kernel_rfl) (fun _ _ _ h => h) (by rfl) ?hy1 hS ?ry1
  case hy1 => intro w0 hS0; first | (go_simp; done) | (go_simp; with_reducible rfl)
  try simp only [Act.put, List.setIfInBounds_toArray, List.set_cons_zero, List.set_cons_succ]
  refine held_take (i := 3) (v := ?vy2) rfl (by kernel_rfl) (by kernel_rfl) (by kernel_rfl) (fun _ _ _ h => h) (by rfl) ?hy2 hS ?ry2
  case hy2 => intro w0 hS0; first | (go_simp; done) | (go_simp; with_reducible rfl)
  try simp only [Act.put, List.setIfInBounds_toArray, List.set_cons_zero, List.set_cons_succ]
  refine held_take (i := 4) (v := ?vy3) rfl (by kernel_rfl) (by kernel_rfl) (by kernel_rfl) (fun _ _ _ h => h) (by rfl) ?hy3 hS ?ry3
  case hy3 => intro w0 hS0; first | (go_simp; done) | (go_simp; with_reducible rfl)
  try simp only [Act.put, List.setIfInBounds_toArray, List.set_cons_zero, List.set_cons_succ]
  refine held_take (i := 5) (v := ?vy4) rfl (by kernel_rfl) (by kernel_rfl) (by kernel_rfl) (fun _ _ _ h => h) (by rfl) ?hy4 hS ?ry4
  case hy4 => intro w0 hS0; first | (go_simp; done) | (go_simp; with_reducible rfl)
  try simp only [Act.put, List.setIfInBounds_toArray, List.set_cons_zero, List.set_cons_succ]
  refine held_two (i := 2) (j := 6) rfl rfl (by kernel_rfl) (by rfl) (by rfl) (fun K hK => ?_) (fun K hK => ?_)
  · go_simp
    go_at_call 29; refine (IH.out _).mono ?_; rintro e w2 ⟨rfl, hG⟩; have HG := Lib.hid hG; clear hG
    go_wp2_with fail
    refine hK.out _ _ trivial ?_
    clear hK K
    try simp only [Act.put, List.setIfInBounds_toArray, List.set_cons_zero, List.set_cons_succ]
    refine held_step (i := 6) rfl (by kernel_rfl) (by rfl) (fun K hK => ?_)
    go_simp
    go_wp2_with fail
    refine hK.out _ _ trivial ?_
    clear hK K
    try simp only [Act.put, List.setIfInBounds_toArray, List.set_cons_zero, List.set_cons_succ]
    refine held_mono (S' := fun w' => w'.cell? ⟨w2.heap.size, 0, none⟩ = some (Value.int .u8 (48 + d))) (fun _ _ => trivial) _ _ _ _ ?_
    clear hS; have hS := (show (w2.alloc (Obj.cells #[Value.int .u8 (48 + d)] 5)).cell? ⟨w2.heap.size, 0, none⟩ = some (Value.int .u8 (48 + d)) by simp)
    refine held_take (i := 7) (v := ?vya0) rfl (by kernel_rfl) (by kernel_rfl) (by kernel_rfl) (fun _ _ _ h => h) (by rfl) ?hya0 hS ?rya0
    case hya0 => intro w0 hS0; have cv := HCV.out w0 w2.heap.size hS0; first | (go_simp; done) | (go_simp; with_reducible rfl)
    try simp only [Act.put, List.setIfInBounds_toArray, List.set_cons_zero, List.set_cons_succ]
    refine held_take (i := 8) (v := ?vya1) rfl (by kernel_rfl) (by kernel_rfl) (by kernel_rfl) (fun _ _ _ h => h) (by rfl) ?hya1 hS ?rya1
    case hya1 => intro w0 hS0; first | (go_simp; done) | (go_simp; with_reducible rfl)
    try simp only [Act.put, List.setIfInBounds_toArray, List.set_cons_zero, List.set_cons_succ]
    refine held_take (i := 9) (v := ?vya2) rfl (by kernel_rfl) (by kernel_rfl) (by kernel_rfl) (fun _ _ _ h => h) (by rfl) ?hya2 hS ?rya2
    case hya2 => intro w0 hS0; first | (go_simp; done) | (go_simp; with_reducible rfl)
    try simp only [Act.put, List.setIfInBounds_toArray, List.set_cons_zero, List.set_cons_succ]
    refine held_done (by kernel_rfl) ?_
    refine NoPanic.normal ?_
    go_wp2_with fail
    refine bodyPost_ret (v := .string T) (by simp [results, Tryd.results29, go_sem]) rfl ⟨rfl, ?_⟩
    exact ((Fr.refl _ w).drew.then HG.out).alloc _
  · go_simp
    go_wp2_with fail
    refine hK.out _ _ trivial ?_
    clear hK K
    try simp only [Act.put, List.setIfInBounds_toArray, List.set_cons_zero, List.set_cons_succ]
    refine held_mono (S' := fun w' => w'.cell? ⟨w.heap.size, 0, none⟩ = some (Value.int .u8 (48 + d))) (fun _ _ => trivial) _ _ _ _ ?_
    clear hS; have hS := (show (w.alloc (Obj.cells #[Value.int .u8 (48 + d)] 5)).cell? ⟨w.heap.size, 0, none⟩ = some (Value.int .u8 (48 + d)) by simp)
    refine held_take (i := 7) (v := ?vyb0) rfl (by kernel_rfl) (by kernel_rfl) (by kernel_rfl) (fun _ _ _ h => h) (by rfl) ?hyb0 hS ?ryb0
    case hyb0 => intro w0 hS0; have cv := HCV.out w0 w.heap.size hS0; first | (go_simp; done) | (go_simp; with_reducible rfl)
    try simp only [Act.put, List.setIfInBounds_toArray, List.set_cons_zero, List.set_cons_succ]
    refine held_step (i := 2) rfl (by kernel_rfl) (by rfl) (fun K hK => ?_)
    go_simp
    go_at_call 29; refine (IH.out _).mono ?_; rintro e w2 ⟨rfl, hG⟩; have HG := Lib.hid hG; clear hG
    go_wp2_with fail
    refine hK.out _ _ (HG.out.cell (by simp) (fun h => h) hS) ?_
    clear hK K
    try simp only [Act.put, List.setIfInBounds_toArray, List.set_cons_zero, List.set_cons_succ]
    have hS : w2.cell? ⟨w.heap.size, 0, none⟩ = some (Value.int .u8 (48 + d)) := HG.out.cell (by simp) (fun h => h) hS
    refine held_take (i := 8) (v := ?vyb1) rfl (by kernel_rfl) (by kernel_rfl) (by kernel_rfl) (fun _ _ _ h => h) (by rfl) ?hyb1 hS ?ryb1
    case hyb1 => intro w0 hS0; first | (go_simp; done) | (go_simp; with_reducible rfl)
    try simp only [Act.put, List.setIfInBounds_toArray, List.set_cons_zero, List.set_cons_succ]
    refine held_take (i := 9) (v := ?vyb2) rfl (by kernel_rfl) (by kernel_rfl) (by kernel_rfl) (fun _ _ _ h => h) (by rfl) ?hyb2 hS ?ryb2
    case hyb2 => intro w0 hS0; first | (go_simp; done) | (go_simp; with_reducible rfl)
    try simp only [Act.put, List.setIfInBounds_toArray, List.set_cons_zero, List.set_cons_succ]
    refine held_done (by kernel_rfl) ?_
    refine NoPanic.normal ?_
    go_wp2_with fail
    refine bodyPost_ret (v := .string T) (by simp [results, Tryd.results29, go_sem]) rfl ⟨rfl, ?_⟩
    exact ((Fr.refl _ w).drew.alloc _).then HG.out
set_option maxRecDepth 100000 in
set_option maxHeartbeats 1000000 in
theorem digits_neg (z y : Int) (w : World) (h0 : z < 0) (h9 : -9 ≤ z) (hy : -z = y) : Calls Tryd.prog 29 #[.int .i64 z] w (Ret (.string ⟨(45 :: Lib.itoa y).toArray⟩) w) := by
  have IH := Lib.hid (fun w0 => digits_one y (by omega) (by omega) w0)
  have hln : ¬ 9223372036854775807 < 1 + (Lib.itoa y).length := by have := Lib.itoa_length_le y (by omega) (by omega); omega
  have hln2 : ¬ 9223372036854775807 < (Lib.itoa y).length + 1 := by omega
  obtain ⟨T, hT⟩ : ∃ T : ByteArray, (⟨(45 :: Lib.itoa y).toArray⟩ : ByteArray) = T := ⟨_, rfl⟩
  have hct : ((⟨#[45]⟩ : ByteArray) ++ ⟨(Lib.itoa y).toArray⟩) = T := by
    rw [← hT]
    apply ByteArray.ext
    simp
  rw [hT]
  clear hT
  have hw1 : IntKind.i64.wrap y = y := by rw [IntKind.wrap_i64]; omega
  go_enter Tryd.func29, Tryd.ntmps29
  go_wp2_with (go_at_call 29; go_must (refine (IH.out _).mono ?_; rintro e w2 ⟨rfl, hG⟩; have HG := Lib.hid hG; clear hG))
  exact bodyPost_ret (v := .string T) (by simp [results, Tryd.results29, go_sem]) rfl ⟨rfl, HG.out⟩
theorem digits_all : ∀ (m : Nat) (z : Int), z.natAbs ≤ m → m ≤ 1000000 → ∀ w, Calls Tryd.prog 29 #[.int .i64 z] w (Ret (.string ⟨(Lib.itoa z).toArray⟩) w)
  | 0, z, hz, _, w => digits_one z (by omega) (by omega) w
  | m + 1, z, hz, hm, w => by
    by_cases h1 : 9 < z
    · obtain ⟨k, rfl⟩ : ∃ k : Nat, z = k := ⟨z.toNat, by omega⟩
      have e1 : (k : Int).tdiv 10 = ((k / 10 : Nat) : Int) := by rw [Int.tdiv_eq_ediv_of_nonneg (by omega)]; rfl
      have e2 : (k : Int).tmod 10 = ((k % 10 : Nat) : Int) := by rw [Int.tmod_eq_emod_of_nonneg (by omega)]; rfl
      have := digits_up (k : Int) _ _ w (by omega) h1 e1 e2 (by omega) (by omega) (by omega) (by omega) (fun w0 => digits_all m _ (by omega) (by omega) w0)
      rw [itoa_big h1, e1, e2]
      exact this
    · by_cases h2 : z < -9
      · obtain ⟨k, rfl⟩ : ∃ k : Nat, z = -(k : Int) := ⟨z.natAbs, by omega⟩
        have e1 : (-(k : Int)).tdiv 10 = -((k / 10 : Nat) : Int) := by rw [Int.neg_tdiv, Int.tdiv_eq_ediv_of_nonneg (by omega)]; rfl
        have e2 : (-(k : Int)).tmod 10 = -((k % 10 : Nat) : Int) := by rw [Int.neg_tmod, Int.tmod_eq_emod_of_nonneg (by omega)]; rfl
        rw [itoa_low h2, e1, e2, Int.neg_neg]
        by_cases h3 : k % 10 = 0
        · exact digits_flat (-(k : Int)) _ _ w (by omega) h2 e1 (by rw [e2, h3]; rfl) (by omega) (by omega) (by omega) (by omega) (fun w0 => digits_all m _ (by omega) (by omega) w0)
        · exact digits_down (-(k : Int)) _ _ w (by omega) h2 e1 e2 (by omega) (by omega) (by omega) (by omega) (fun w0 => digits_all m _ (by omega) (by omega) w0)
      · by_cases h3 : z < 0
        · rw [itoa_neg h3 (by omega)]
          exact digits_neg z _ w h3 (by omega) rfl
        · exact digits_one z (by omega) (by omega) w
theorem digits_walk (z : Int) (h0 : -3 ≤ z) (h1 : z ≤ 1000000) (w : World) : Calls Tryd.prog 29 #[.int .i64 z] w (Ret (.string ⟨(Lib.itoa z).toArray⟩) w) :=
  digits_all 1000000 z (by omega) (Nat.le_refl _) w
end Go.Proofs.YtogjfifpbplahaaDoor
