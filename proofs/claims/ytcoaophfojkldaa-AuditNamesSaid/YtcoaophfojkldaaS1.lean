/-
  Walks through the given program: each theorem fnN says what the call of function N of the translation hands back, for all arguments that its premises describe, and that nothing that was there has turned.
-/
import Derived.Test.YtcoaophfojkldaaB1
import Derived.Test.YtcoaophfojkldaaLaneI
import Derived.Test.YtcoaophfojkldaaSha
namespace Go.Proofs.Ytcoaophfojkldaa
open Go.Lane
theorem can69 : Callable Try.prog 69 := ⟨Try.f69, Try.func69, by kernel_rfl, rfl⟩
theorem can64 : Callable Try.prog 64 := ⟨Try.f64, Try.func64, by kernel_rfl, rfl⟩
theorem pl80 : Plain Try.prog 80 := ⟨_, Try.underlying80, rfl⟩
theorem sz80 : (Try.prog.info? 80).map (·.size) = some 1 := by kernel_rfl
theorem sz81 : (Try.prog.info? 81).map (·.size) = some 8 := by kernel_rfl
theorem sz84 : (Try.prog.info? 84).map (·.size) = some 64 := by kernel_rfl
theorem sz82 : (Try.prog.info? 82).map (·.size) = some 8 := by kernel_rfl
theorem ag81 : AggT Try.prog 81 8 := ⟨⟨_, Try.underlying81, rfl⟩, by kernel_rfl⟩
theorem ag84 : AggT Try.prog 84 64 := ⟨⟨_, Try.underlying84, rfl⟩, by kernel_rfl⟩
theorem ag82 : AggT Try.prog 82 8 := ⟨⟨_, Try.underlying82, rfl⟩, by kernel_rfl⟩
theorem ze81 : ZeroT Try.prog 81 (.agg (Array.replicate 8 (.int .u32 0))) := by unfold ZeroT; kernel_rfl
theorem ze84 : ZeroT Try.prog 84 (.agg (Array.replicate 64 (.int .u32 0))) := by unfold ZeroT; kernel_rfl
theorem ze82 : ZeroT Try.prog 82 (.agg (Array.replicate 8 (.int .u32 0))) := by unfold ZeroT; kernel_rfl
theorem ar81 : ArrT Try.prog 81 8 80 1 := ⟨Try.underlying81, by kernel_rfl, by decide⟩
theorem ar84 : ArrT Try.prog 84 64 80 1 := ⟨Try.underlying84, by kernel_rfl, by decide⟩
theorem ar82 : ArrT Try.prog 82 8 80 1 := ⟨Try.underlying82, by kernel_rfl, by decide⟩
theorem one_u32 (l : List UInt32) : ∀ u ∈ l.map u32, u.oneCell' = true := by
  intro v hv; obtain ⟨x, _, rfl⟩ := List.mem_map.1 hv; rfl
theorem flat_u32 (l : List UInt32) : flat (l.map u32) = l.map u32 := by
  induction l with
  | nil => rfl
  | cons b r ih => rw [List.map_cons, flat_cons, ih]; rfl

theorem fn67 (x : UInt32) (n : Nat) (hn : n ≤ 31) (w : World) : Rets Try.prog 67 #[u32 x, u32 (UInt32.ofNat n)] w (fun v w' => v = u32 (Sha.rot x n) ∧ w' = w) := by
  have e : (UInt32.ofNat n).toNat = n := by rw [UInt32.toNat_ofNat']; omega
  have e2 : (32 - UInt32.ofNat n).toNat = 32 - n := by rw [UInt32.toNat_sub_of_le _ _ (by rw [UInt32.le_iff_toNat_le, e]; show n ≤ 32; omega), e]; rfl
  refine Rets.of (n := 13) (vs := [_, _]) Try.func67 rfl rfl rfl ?_
  refine TC.seq ?_
  refine TC.region ?_
  refine TL.assign rfl rfl ?_
  refine TL.done ?_
  refine Thn.go ?_
  refine TC.seq ?_
  refine TC.region ?_
  refine TL.move rfl rfl ?_
  refine TL.move rfl rfl ?_
  refine TL.shr_u32 rfl rfl (by omega) rfl ?_
  refine TL.move rfl rfl ?_
  refine TL.move rfl rfl ?_
  refine TL.sub_u32 (a := 32) rfl rfl rfl ?_
  refine TL.shl_u32 rfl rfl (by omega) rfl ?_
  refine TL.or_u32 rfl rfl rfl ?_
  refine TL.assign rfl rfl ?_
  refine TL.done ?_
  refine Thn.go ?_
  refine TC.ret ?_
  refine Ends.ret [4] rfl rfl ?_
  exact ⟨by show u32 (UInt32.ofNat (x.toNat / 2 ^ ((UInt32.ofNat n).toNat : Int).toNat) ||| UInt32.ofNat (x.toNat * 2 ^ ((32 - UInt32.ofNat n).toNat : Int).toNat)) = _; rw [Int.toNat_natCast, Int.toNat_natCast, e, e2]; rfl, rfl⟩

theorem fn69 (x : UInt32) (n : Nat) (h0 : 0 < n) (hn : n ≤ 31) (w : World) : Rets Try.prog 69 #[u32 x, .int .i64 (-(n : Int))] w (fun v w' => v = u32 (Sha.rot x n) ∧ w' = w) := by
  have e : ((UInt64.ofNat ((-(n : Int)) % 18446744073709551616).toNat) &&& 31).toNat = 32 - n := by
    have := Sha.and31 ⟨n - 1, by omega⟩
    simpa [Nat.sub_add_cancel (show 1 ≤ n by omega)] using this
  obtain ⟨q, hq⟩ : ∃ q, (UInt64.ofNat ((-(n : Int)) % 18446744073709551616).toNat) &&& 31 = q := ⟨_, rfl⟩
  rw [hq] at e
  have e2 : (32 - q).toNat = n := by rw [UInt64.toNat_sub_of_le _ _ (by rw [UInt64.le_iff_toNat_le, e]; show 32 - n ≤ 32; omega), e]; show 32 - (32 - n) = n; omega
  refine Rets.of (n := 17) (vs := [_, _]) Try.func69 rfl rfl rfl ?_
  refine TC.seq ?_
  refine TC.region ?_
  refine TL.assign rfl rfl ?_
  refine TL.done ?_
  refine Thn.go ?_
  refine TC.seq ?_
  refine TC.region ?_
  refine TL.move rfl rfl ?_
  refine TL.convI_u64 Try.underlying3 Try.underlying68 rfl rfl ?_
  refine TL.and_u64 (b := 31) rfl rfl rfl ?_
  rw [hq]
  refine TL.assign rfl rfl ?_
  refine TL.done ?_
  refine Thn.go ?_
  refine TC.seq ?_
  refine TC.region ?_
  refine TL.move rfl rfl ?_
  refine TL.move rfl rfl ?_
  refine TL.shl_u32 rfl rfl (by omega) rfl ?_
  refine TL.move rfl rfl ?_
  refine TL.move rfl rfl ?_
  refine TL.sub_u64 (a := 32) rfl rfl rfl ?_
  refine TL.shr_u32 rfl rfl (by omega) rfl ?_
  refine TL.or_u32 rfl rfl rfl ?_
  refine TL.assign rfl rfl ?_
  refine TL.done ?_
  refine Thn.go ?_
  refine TC.ret ?_
  refine Ends.ret [4] rfl rfl ?_
  exact ⟨by show u32 (UInt32.ofNat (x.toNat * 2 ^ (q.toNat : Int).toNat) ||| UInt32.ofNat (x.toNat / 2 ^ ((32 - q).toNat : Int).toNat)) = _; rw [Int.toNat_natCast, Int.toNat_natCast, e, e2, Sha.or_comm32]; rfl, rfl⟩

theorem fn64 (x : UInt32) (n : Nat) (h0 : 0 < n) (hn : n ≤ 31) (w : World) : Rets Try.prog 64 #[u32 x, .int .i64 (n : Int)] w (fun v w' => v = u32 (Sha.rot x n) ∧ w' = w) := by
  refine Rets.of (n := 9) (vs := [_, _]) Try.func64 rfl rfl rfl ?_
  refine TC.seq ?_
  refine TC.region ?_
  refine TL.assign rfl rfl ?_
  refine TL.done ?_
  refine Thn.go ?_
  refine TC.seq ?_
  refine TC.region ?_
  refine TL.move rfl rfl ?_
  refine TL.move rfl rfl ?_
  refine TL.neg_i64 rfl (by omega) (by omega) rfl ?_
  refine TL.call can69 rfl rfl (fn69 x n h0 hn w) (fun v8 w8 hr8 => ?_)
  obtain ⟨rfl, rfl⟩ := hr8
  refine TL.assign rfl rfl ?_
  refine TL.done ?_
  refine Thn.go ?_
  refine TC.ret ?_
  refine Ends.ret [4] rfl rfl ?_
  exact ⟨rfl, rfl⟩

theorem fn51 (w : World) : Rets Try.prog 51 #[] w (fun v w' => v = .agg (Sha.h0.map u32).toArray ∧ Ch [] w w') := by
  refine Rets.of (n := 2) (vs := []) Try.func51 rfl rfl rfl ?_
  refine TC.seq ?_
  refine TC.region ?_
  refine TL.alloc ze82 rfl (fun w0 hb0 hc0 hz0 => ?_)
  refine TL.done ?_
  refine Thn.go ?_
  refine TC.seq ?_
  refine TC.region ?_
  refine TL.buildArr [.const (Value.int IntKind.u32 1779033703), .const (Value.int IntKind.u32 3144134277), .const (Value.int IntKind.u32 1013904242), .const (Value.int IntKind.u32 2773480762), .const (Value.int IntKind.u32 1359893119), .const (Value.int IntKind.u32 2600822924), .const (Value.int IntKind.u32 528734635), .const (Value.int IntKind.u32 1541459225)] Try.underlying82 sz80 ze82 rfl rfl rfl (by simp [Value.cells]) rfl ?_
  refine TL.top (v' := .agg (Sha.h0.map u32).toArray) rfl ?_
  refine TL.store sz82 rfl rfl rfl (hb0) (by first | omega | simp [Value.cells]) (by simp [Value.cells, Value.oneCell', Sha.h0]) (.inl rfl) (fun ws1 hbs1 hcs1 hzs1 => ?_)
  replace hbs1 : Has ws1 w.heap.size (Sha.h0.map u32).toArray 82 (0, 0) := hbs1.setAll (by simp [Value.cells, Sha.h0])
  refine TL.done ?_
  refine Thn.go ?_
  refine TC.ret ?_
  refine Ends.cell (Sha.h0.map u32) (.inl rfl) rfl ag82 rfl rfl (fun j _ => by rw [hbs1.cell, Nat.zero_add, List.getElem?_toArray]) ?_
  exact ⟨rfl, hc0.then1 hcs1 (Nat.le_refl _)⟩

theorem fn56 (w : World) : Rets Try.prog 56 #[] w (fun v w' => v = .agg (Sha.h0.map u32).toArray ∧ Ch [] w w') := by
  refine Rets.of (n := 2) (vs := []) Try.func56 rfl rfl rfl ?_
  refine TC.seq ?_
  refine TC.region ?_
  refine TL.alloc ze81 rfl (fun w0 hb0 hc0 hz0 => ?_)
  refine TL.done ?_
  refine Thn.go ?_
  refine TC.seq ?_
  refine TC.region ?_
  refine TL.buildArr [.const (Value.int IntKind.u32 1779033703), .const (Value.int IntKind.u32 3144134277), .const (Value.int IntKind.u32 1013904242), .const (Value.int IntKind.u32 2773480762), .const (Value.int IntKind.u32 1359893119), .const (Value.int IntKind.u32 2600822924), .const (Value.int IntKind.u32 528734635), .const (Value.int IntKind.u32 1541459225)] Try.underlying81 sz80 ze81 rfl rfl rfl (by simp [Value.cells]) rfl ?_
  refine TL.top (v' := .agg (Sha.h0.map u32).toArray) rfl ?_
  refine TL.store sz81 rfl rfl rfl (hb0) (by first | omega | simp [Value.cells]) (by simp [Value.cells, Value.oneCell', Sha.h0]) (.inl rfl) (fun ws1 hbs1 hcs1 hzs1 => ?_)
  replace hbs1 : Has ws1 w.heap.size (Sha.h0.map u32).toArray 81 (0, 0) := hbs1.setAll (by simp [Value.cells, Sha.h0])
  refine TL.done ?_
  refine Thn.go ?_
  refine TC.ret ?_
  refine Ends.cell (Sha.h0.map u32) (.inl rfl) rfl ag81 rfl rfl (fun j _ => by rw [hbs1.cell, Nat.zero_add, List.getElem?_toArray]) ?_
  exact ⟨rfl, hc0.then1 hcs1 (Nat.le_refl _)⟩

theorem fn52 (w : World) : Rets Try.prog 52 #[] w (fun v w' => v = .agg (Sha.ks.map u32).toArray ∧ Ch [] w w') := by
  refine Rets.of (n := 2) (vs := []) Try.func52 rfl rfl rfl ?_
  refine TC.seq ?_
  refine TC.region ?_
  refine TL.alloc ze84 rfl (fun w0 hb0 hc0 hz0 => ?_)
  refine TL.done ?_
  refine Thn.go ?_
  refine TC.seq ?_
  refine TC.region ?_
  refine TL.buildArr [.const (Value.int IntKind.u32 1116352408), .const (Value.int IntKind.u32 1899447441), .const (Value.int IntKind.u32 3049323471), .const (Value.int IntKind.u32 3921009573), .const (Value.int IntKind.u32 961987163), .const (Value.int IntKind.u32 1508970993), .const (Value.int IntKind.u32 2453635748), .const (Value.int IntKind.u32 2870763221), .const (Value.int IntKind.u32 3624381080), .const (Value.int IntKind.u32 310598401), .const (Value.int IntKind.u32 607225278), .const (Value.int IntKind.u32 1426881987), .const (Value.int IntKind.u32 1925078388), .const (Value.int IntKind.u32 2162078206), .const (Value.int IntKind.u32 2614888103), .const (Value.int IntKind.u32 3248222580), .const (Value.int IntKind.u32 3835390401), .const (Value.int IntKind.u32 4022224774), .const (Value.int IntKind.u32 264347078), .const (Value.int IntKind.u32 604807628), .const (Value.int IntKind.u32 770255983), .const (Value.int IntKind.u32 1249150122), .const (Value.int IntKind.u32 1555081692), .const (Value.int IntKind.u32 1996064986), .const (Value.int IntKind.u32 2554220882), .const (Value.int IntKind.u32 2821834349), .const (Value.int IntKind.u32 2952996808), .const (Value.int IntKind.u32 3210313671), .const (Value.int IntKind.u32 3336571891), .const (Value.int IntKind.u32 3584528711), .const (Value.int IntKind.u32 113926993), .const (Value.int IntKind.u32 338241895), .const (Value.int IntKind.u32 666307205), .const (Value.int IntKind.u32 773529912), .const (Value.int IntKind.u32 1294757372), .const (Value.int IntKind.u32 1396182291), .const (Value.int IntKind.u32 1695183700), .const (Value.int IntKind.u32 1986661051), .const (Value.int IntKind.u32 2177026350), .const (Value.int IntKind.u32 2456956037), .const (Value.int IntKind.u32 2730485921), .const (Value.int IntKind.u32 2820302411), .const (Value.int IntKind.u32 3259730800), .const (Value.int IntKind.u32 3345764771), .const (Value.int IntKind.u32 3516065817), .const (Value.int IntKind.u32 3600352804), .const (Value.int IntKind.u32 4094571909), .const (Value.int IntKind.u32 275423344), .const (Value.int IntKind.u32 430227734), .const (Value.int IntKind.u32 506948616), .const (Value.int IntKind.u32 659060556), .const (Value.int IntKind.u32 883997877), .const (Value.int IntKind.u32 958139571), .const (Value.int IntKind.u32 1322822218), .const (Value.int IntKind.u32 1537002063), .const (Value.int IntKind.u32 1747873779), .const (Value.int IntKind.u32 1955562222), .const (Value.int IntKind.u32 2024104815), .const (Value.int IntKind.u32 2227730452), .const (Value.int IntKind.u32 2361852424), .const (Value.int IntKind.u32 2428436474), .const (Value.int IntKind.u32 2756734187), .const (Value.int IntKind.u32 3204031479), .const (Value.int IntKind.u32 3329325298)] Try.underlying84 sz80 ze84 rfl rfl rfl (by simp [Value.cells]) rfl ?_
  refine TL.top (v' := .agg (Sha.ks.map u32).toArray) rfl ?_
  refine TL.store sz84 rfl rfl rfl (hb0) (by first | omega | simp [Value.cells]) (by simpa [Value.cells] using one_u32 Sha.ks) (.inl rfl) (fun ws1 hbs1 hcs1 hzs1 => ?_)
  replace hbs1 : Has ws1 w.heap.size (Sha.ks.map u32).toArray 84 (0, 0) := hbs1.setAll (by simp [Value.cells, Sha.ks])
  refine TL.done ?_
  refine Thn.go ?_
  refine TC.ret ?_
  refine Ends.cell (Sha.ks.map u32) (.inl rfl) rfl ag84 rfl rfl (fun j _ => by rw [hbs1.cell, Nat.zero_add, List.getElem?_toArray]) ?_
  exact ⟨rfl, hc0.then1 hcs1 (Nat.le_refl _)⟩

theorem fn57 (w : World) : Rets Try.prog 57 #[] w (fun v w' => v = .agg (Sha.ks.map u32).toArray ∧ Ch [] w w') := by
  refine Rets.of (n := 2) (vs := []) Try.func57 rfl rfl rfl ?_
  refine TC.seq ?_
  refine TC.region ?_
  refine TL.alloc ze84 rfl (fun w0 hb0 hc0 hz0 => ?_)
  refine TL.done ?_
  refine Thn.go ?_
  refine TC.seq ?_
  refine TC.region ?_
  refine TL.buildArr [.const (Value.int IntKind.u32 1116352408), .const (Value.int IntKind.u32 1899447441), .const (Value.int IntKind.u32 3049323471), .const (Value.int IntKind.u32 3921009573), .const (Value.int IntKind.u32 961987163), .const (Value.int IntKind.u32 1508970993), .const (Value.int IntKind.u32 2453635748), .const (Value.int IntKind.u32 2870763221), .const (Value.int IntKind.u32 3624381080), .const (Value.int IntKind.u32 310598401), .const (Value.int IntKind.u32 607225278), .const (Value.int IntKind.u32 1426881987), .const (Value.int IntKind.u32 1925078388), .const (Value.int IntKind.u32 2162078206), .const (Value.int IntKind.u32 2614888103), .const (Value.int IntKind.u32 3248222580), .const (Value.int IntKind.u32 3835390401), .const (Value.int IntKind.u32 4022224774), .const (Value.int IntKind.u32 264347078), .const (Value.int IntKind.u32 604807628), .const (Value.int IntKind.u32 770255983), .const (Value.int IntKind.u32 1249150122), .const (Value.int IntKind.u32 1555081692), .const (Value.int IntKind.u32 1996064986), .const (Value.int IntKind.u32 2554220882), .const (Value.int IntKind.u32 2821834349), .const (Value.int IntKind.u32 2952996808), .const (Value.int IntKind.u32 3210313671), .const (Value.int IntKind.u32 3336571891), .const (Value.int IntKind.u32 3584528711), .const (Value.int IntKind.u32 113926993), .const (Value.int IntKind.u32 338241895), .const (Value.int IntKind.u32 666307205), .const (Value.int IntKind.u32 773529912), .const (Value.int IntKind.u32 1294757372), .const (Value.int IntKind.u32 1396182291), .const (Value.int IntKind.u32 1695183700), .const (Value.int IntKind.u32 1986661051), .const (Value.int IntKind.u32 2177026350), .const (Value.int IntKind.u32 2456956037), .const (Value.int IntKind.u32 2730485921), .const (Value.int IntKind.u32 2820302411), .const (Value.int IntKind.u32 3259730800), .const (Value.int IntKind.u32 3345764771), .const (Value.int IntKind.u32 3516065817), .const (Value.int IntKind.u32 3600352804), .const (Value.int IntKind.u32 4094571909), .const (Value.int IntKind.u32 275423344), .const (Value.int IntKind.u32 430227734), .const (Value.int IntKind.u32 506948616), .const (Value.int IntKind.u32 659060556), .const (Value.int IntKind.u32 883997877), .const (Value.int IntKind.u32 958139571), .const (Value.int IntKind.u32 1322822218), .const (Value.int IntKind.u32 1537002063), .const (Value.int IntKind.u32 1747873779), .const (Value.int IntKind.u32 1955562222), .const (Value.int IntKind.u32 2024104815), .const (Value.int IntKind.u32 2227730452), .const (Value.int IntKind.u32 2361852424), .const (Value.int IntKind.u32 2428436474), .const (Value.int IntKind.u32 2756734187), .const (Value.int IntKind.u32 3204031479), .const (Value.int IntKind.u32 3329325298)] Try.underlying84 sz80 ze84 rfl rfl rfl (by simp [Value.cells]) rfl ?_
  refine TL.top (v' := .agg (Sha.ks.map u32).toArray) rfl ?_
  refine TL.store sz84 rfl rfl rfl (hb0) (by first | omega | simp [Value.cells]) (by simpa [Value.cells] using one_u32 Sha.ks) (.inl rfl) (fun ws1 hbs1 hcs1 hzs1 => ?_)
  replace hbs1 : Has ws1 w.heap.size (Sha.ks.map u32).toArray 84 (0, 0) := hbs1.setAll (by simp [Value.cells, Sha.ks])
  refine TL.done ?_
  refine Thn.go ?_
  refine TC.ret ?_
  refine Ends.cell (Sha.ks.map u32) (.inl rfl) rfl ag84 rfl rfl (fun j _ => by rw [hbs1.cell, Nat.zero_add, List.getElem?_toArray]) ?_
  exact ⟨rfl, hc0.then1 hcs1 (Nat.le_refl _)⟩

