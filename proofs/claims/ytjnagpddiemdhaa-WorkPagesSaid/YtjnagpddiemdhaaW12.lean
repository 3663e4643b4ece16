/-
  Walks through the given program: each theorem fnN says what the call of function N of the translation hands back, for all arguments that its premises describe, and that nothing that was there has turned.
-/
import Derived.Test.YtjnagpddiemdhaaW11
namespace Go.Proofs.Ytjnagpddiemdhaa
open Go.Lane
theorem can15 : Callable Try.prog 15 := ⟨Try.f15, Try.func15, by kernel_rfl, rfl⟩
theorem can16 : Callable Try.prog 16 := ⟨Try.f16, Try.func16, by kernel_rfl, rfl⟩
theorem can17 : Callable Try.prog 17 := ⟨Try.f17, Try.func17, by kernel_rfl, rfl⟩
theorem can18 : Callable Try.prog 18 := ⟨Try.f18, Try.func18, by kernel_rfl, rfl⟩
theorem can19 : Callable Try.prog 19 := ⟨Try.f19, Try.func19, by kernel_rfl, rfl⟩
theorem can20 : Callable Try.prog 20 := ⟨Try.f20, Try.func20, by kernel_rfl, rfl⟩
theorem can21 : Callable Try.prog 21 := ⟨Try.f21, Try.func21, by kernel_rfl, rfl⟩
theorem can22 : Callable Try.prog 22 := ⟨Try.f22, Try.func22, by kernel_rfl, rfl⟩
theorem can23 : Callable Try.prog 23 := ⟨Try.f23, Try.func23, by kernel_rfl, rfl⟩
theorem can24 : Callable Try.prog 24 := ⟨Try.f24, Try.func24, by kernel_rfl, rfl⟩

theorem fn5 (a : Value) (l : List Wk.Work) (x : Wk.Work) (id : Int) (u : List UInt8) (k : Int) (s : List UInt8) (w : World) (ha : Rd w a 6 l.length (l.flatMap cl)) : Rets Try.prog 5 #[a, .agg (cl x).toArray, .int .i64 id, str u, .int .i64 k, str s] w (fun v w' => v = .bool true ∧ Ch [] w w') := by
  obtain ⟨ad, c, rfl, _⟩ := ha.shape
  refine Rets.of (n := 195) (vs := [_, _, _, _, _, _]) Try.func5 rfl rfl rfl ?_
  refine TC.seq ?_
  refine TC.region ?_
  refine TL.box rfl rfl (fun w7 hb7 hc7 hz7 => ?_)
  replace hb7 : Has w7 w.heap.size (cl x).toArray 33 (0, 0) := hb7
  refine TL.assign rfl rfl ?_
  refine TL.done ?_
  refine Thn.go ?_
  refine TC.seq ?_
  refine TC.seq ?_
  refine TC.region ?_
  refine TL.move rfl rfl ?_
  refine TL.lenSlice Try.underlying22 rfl rfl ?_
  refine TL.gtr rfl rfl rfl ?_
  refine TL.done ?_
  refine Thn.go ?_
  refine TC.condP rfl (fun h1 => ?_) (fun h1 => ?_)
  ·
    refine TC.seq ?_
    refine TC.region ?_
    refine TL.assign rfl rfl ?_
    refine TL.done ?_
    refine Thn.go ?_
    refine TC.ret ?_
    refine Thn.ret ?_
    refine Ends.ret [12] rfl rfl ?_
    exact ⟨rfl, hc7⟩
  ·
    have haa := ha.ch0 hc7
    refine TC.skip ?_
    refine Thn.go ?_
    refine TC.seq ?_
    refine TC.region ?_
    refine TL.move rfl rfl ?_
    refine TL.call can8 rfl rfl (fn8 _ l (by omega) w7 haa) (fun v41 w41 hr41 => ?_)
    obtain ⟨⟨g41, c41, rfl⟩, hv41, hc41⟩ := hr41
    have hcap := (Rd.ofOwn hv41).cap
    refine TL.assign rfl rfl ?_
    refine TL.done ?_
    refine Thn.go ?_
    refine TC.seq ?_
    refine TC.region ?_
    refine TL.move rfl rfl ?_
    refine TL.move rfl rfl ?_
    refine TL.lenSlice Try.underlying22 rfl rfl ?_
    refine TL.sliceTo (l.length) sl22 rfl rfl (by first | rfl | omega) (by omega) rfl ?_
    have ho := own_prefix hv41 (by omega)
    refine TL.assign rfl rfl ?_
    refine TL.done ?_
    refine Thn.go ?_
    refine TC.seq ?_
    refine TC.region ?_
    refine TL.move rfl rfl ?_
    refine TL.loadAgg (cl x) ag33 rfl rfl (fun j _ => by rw [(hb7.ch0 hc41).cell, Nat.zero_add, List.getElem?_toArray]) rfl ?_
    refine TL.call can15 rfl rfl (fn15 _ l x w41 ho) (fun v49 w49 hr49 => ?_)
    obtain ⟨r49, rfl, hv49, hc49⟩ := hr49
    have p49 := hc41.trans0 hc49
    refine TL.move rfl rfl ?_
    refine TL.extract rfl rfl rfl ?_
    refine TL.extract rfl rfl rfl ?_
    refine TL.assign rfl rfl ?_
    refine TL.assign rfl rfl ?_
    refine TL.done ?_
    refine Thn.go ?_
    refine TC.seq ?_
    refine TC.region ?_
    refine TL.move rfl rfl ?_
    refine TL.loadAgg (cl x) ag33 rfl rfl (fun j _ => by rw [(hb7.ch0 p49).cell, Nat.zero_add, List.getElem?_toArray]) rfl ?_
    refine TL.call can16 rfl rfl (fn16 _ l x w49 (haa.ch0 p49)) (fun v55 w55 hr55 => ?_)
    obtain ⟨r55, rfl, hv55, hc55⟩ := hr55
    have f55 := hc49.trans0 hc55
    refine TL.move rfl rfl ?_
    refine TL.extract rfl rfl rfl ?_
    refine TL.extract rfl rfl rfl ?_
    refine TL.assign rfl rfl ?_
    refine TL.assign rfl rfl ?_
    refine TL.done ?_
    refine Thn.go ?_
    refine TC.seq ?_
    refine TC.region ?_
    refine TL.move rfl rfl ?_
    refine TL.move rfl rfl ?_
    refine TL.move rfl rfl ?_
    refine TL.call can17 rfl rfl (fn17 _ l id u w55 (ho.ch0 f55)) (fun v62 w62 hr62 => ?_)
    obtain ⟨r62, rfl, hv62, hc62⟩ := hr62
    have f62 := f55.trans0 hc62
    refine TL.move rfl rfl ?_
    refine TL.extract rfl rfl rfl ?_
    refine TL.extract rfl rfl rfl ?_
    refine TL.assign rfl rfl ?_
    refine TL.assign rfl rfl ?_
    refine TL.done ?_
    refine Thn.go ?_
    refine TC.seq ?_
    refine TC.region ?_
    refine TL.move rfl rfl ?_
    refine TL.move rfl rfl ?_
    refine TL.move rfl rfl ?_
    refine TL.call can18 rfl rfl (fn18 _ l id u w62 ((haa.ch0 hc41).ch0 f62)) (fun v69 w69 hr69 => ?_)
    obtain ⟨r69, rfl, hv69, hc69⟩ := hr69
    have f69 := f62.trans0 hc69
    refine TL.move rfl rfl ?_
    refine TL.extract rfl rfl rfl ?_
    refine TL.extract rfl rfl rfl ?_
    refine TL.assign rfl rfl ?_
    refine TL.assign rfl rfl ?_
    refine TL.done ?_
    refine Thn.go ?_
    refine TC.seq ?_
    refine TC.region ?_
    refine TL.move rfl rfl ?_
    refine TL.move rfl rfl ?_
    refine TL.move rfl rfl ?_
    refine TL.call can19 rfl rfl (fn19 _ l id u w69 (ho.ch0 f69)) (fun v76 w76 hr76 => ?_)
    obtain ⟨r76, rfl, hv76, hc76⟩ := hr76
    have f76 := f69.trans0 hc76
    refine TL.move rfl rfl ?_
    refine TL.extract rfl rfl rfl ?_
    refine TL.extract rfl rfl rfl ?_
    refine TL.assign rfl rfl ?_
    refine TL.assign rfl rfl ?_
    refine TL.done ?_
    refine Thn.go ?_
    refine TC.seq ?_
    refine TC.region ?_
    refine TL.move rfl rfl ?_
    refine TL.move rfl rfl ?_
    refine TL.move rfl rfl ?_
    refine TL.call can20 rfl rfl (fn20 _ l id u w76 ((haa.ch0 hc41).ch0 f76)) (fun v83 w83 hr83 => ?_)
    obtain ⟨r83, rfl, hv83, hc83⟩ := hr83
    have f83 := f76.trans0 hc83
    refine TL.move rfl rfl ?_
    refine TL.extract rfl rfl rfl ?_
    refine TL.extract rfl rfl rfl ?_
    refine TL.assign rfl rfl ?_
    refine TL.assign rfl rfl ?_
    refine TL.done ?_
    refine Thn.go ?_
    refine TC.seq ?_
    refine TC.region ?_
    refine TL.move rfl rfl ?_
    refine TL.move rfl rfl ?_
    refine TL.move rfl rfl ?_
    refine TL.call can21 rfl rfl (fn21 _ l id u w83 (ho.ch0 f83)) (fun v90 w90 hr90 => ?_)
    obtain ⟨r90, rfl, hv90, hc90⟩ := hr90
    have f90 := f83.trans0 hc90
    refine TL.move rfl rfl ?_
    refine TL.extract rfl rfl rfl ?_
    refine TL.extract rfl rfl rfl ?_
    refine TL.assign rfl rfl ?_
    refine TL.assign rfl rfl ?_
    refine TL.done ?_
    refine Thn.go ?_
    refine TC.seq ?_
    refine TC.region ?_
    refine TL.move rfl rfl ?_
    refine TL.move rfl rfl ?_
    refine TL.move rfl rfl ?_
    refine TL.call can22 rfl rfl (fn22 _ l id u w90 ((haa.ch0 hc41).ch0 f90)) (fun v97 w97 hr97 => ?_)
    obtain ⟨r97, rfl, hv97, hc97⟩ := hr97
    have f97 := f90.trans0 hc97
    refine TL.move rfl rfl ?_
    refine TL.extract rfl rfl rfl ?_
    refine TL.extract rfl rfl rfl ?_
    refine TL.assign rfl rfl ?_
    refine TL.assign rfl rfl ?_
    refine TL.done ?_
    refine Thn.go ?_
    refine TC.seq ?_
    refine TC.region ?_
    refine TL.move rfl rfl ?_
    refine TL.move rfl rfl ?_
    refine TL.move rfl rfl ?_
    refine TL.call can23 rfl rfl (fn23 _ l k s w97 (ho.ch0 f97)) (fun v104 w104 hr104 => ?_)
    obtain ⟨r104, rfl, hv104, hc104⟩ := hr104
    have f104 := f97.trans0 hc104
    refine TL.move rfl rfl ?_
    refine TL.extract rfl rfl rfl ?_
    refine TL.extract rfl rfl rfl ?_
    refine TL.assign rfl rfl ?_
    refine TL.assign rfl rfl ?_
    refine TL.done ?_
    refine Thn.go ?_
    refine TC.seq ?_
    refine TC.region ?_
    refine TL.move rfl rfl ?_
    refine TL.move rfl rfl ?_
    refine TL.move rfl rfl ?_
    refine TL.call can24 rfl rfl (fn24 _ l k s w104 ((haa.ch0 hc41).ch0 f104)) (fun v111 w111 hr111 => ?_)
    obtain ⟨r111, rfl, hv111, hc111⟩ := hr111
    have f111 := f104.trans0 hc111
    refine TL.move rfl rfl ?_
    refine TL.extract rfl rfl rfl ?_
    refine TL.extract rfl rfl rfl ?_
    refine TL.assign rfl rfl ?_
    refine TL.assign rfl rfl ?_
    refine TL.done ?_
    refine Thn.go ?_
    refine TC.cut0 ([(0, .slice ad l.length c), (13, .slice (some ⟨g41, 0, none⟩) (l.length + 1) c41), (14, .slice (some ⟨g41, 0, none⟩) l.length c41), (15, r49), (17, r55), (19, r62), (21, r69), (23, r76), (25, r83), (27, r90), (29, r97), (31, r104), (33, r111), (35, .bool true)]) (fun wa => Ch [] w111 wa) (fun K2 hK2 => ?_) (fun wa hA => ?_)
    ·
      refine TC.region ?_
      refine TL.move rfl rfl ?_
      refine TL.call can25 rfl rfl (fn25 _ l w111 (ho.ch0 f111)) (fun v115 w115 hr115 => ?_)
      obtain ⟨rfl, hc115⟩ := hr115
      refine TL.move rfl rfl ?_
      refine TL.call can26 rfl rfl (fn26 _ l w115 ((haa.ch0 hc41).ch0 (f111.trans0 hc115))) (fun v117 w117 hr117 => ?_)
      obtain ⟨rfl, hc117⟩ := hr117
      refine TL.eql rfl rfl rfl ?_
      refine TL.yes (rfl) ?_
      refine TL.move rfl rfl ?_
      refine TL.guardYes (d := 119) rfl rfl rfl ?_
      refine TL.move rfl rfl ?_
      refine TL.guardYes (d := 119) rfl rfl rfl ?_
      refine TL.move rfl rfl ?_
      refine TL.guardYes (d := 119) rfl rfl rfl ?_
      refine TL.eql rfl rfl rfl ?_
      refine TL.yes (rfl) ?_
      refine TL.pickT rfl rfl rfl rfl ?_
      refine TL.move rfl rfl ?_
      refine TL.guardYes (d := 124) rfl rfl rfl ?_
      refine TL.move rfl rfl ?_
      refine TL.guardYes (d := 124) rfl rfl rfl ?_
      refine TL.move rfl rfl ?_
      refine TL.guardYes (d := 124) rfl rfl rfl ?_
      refine TL.eql rfl rfl rfl ?_
      refine TL.yes (rfl) ?_
      refine TL.pickT rfl rfl rfl rfl ?_
      refine TL.move rfl rfl ?_
      refine TL.guardYes (d := 129) rfl rfl rfl ?_
      refine TL.move rfl rfl ?_
      refine TL.guardYes (d := 129) rfl rfl rfl ?_
      refine TL.move rfl rfl ?_
      refine TL.guardYes (d := 129) rfl rfl rfl ?_
      refine TL.eql rfl rfl rfl ?_
      refine TL.yes (rfl) ?_
      refine TL.pickT rfl rfl rfl rfl ?_
      refine TL.move rfl rfl ?_
      refine TL.guardYes (d := 134) rfl rfl rfl ?_
      refine TL.move rfl rfl ?_
      refine TL.guardYes (d := 134) rfl rfl rfl ?_
      refine TL.move rfl rfl ?_
      refine TL.guardYes (d := 134) rfl rfl rfl ?_
      refine TL.eql rfl rfl rfl ?_
      refine TL.yes (rfl) ?_
      refine TL.pickT rfl rfl rfl rfl ?_
      refine TL.move rfl rfl ?_
      refine TL.guardYes (d := 139) rfl rfl rfl ?_
      refine TL.move rfl rfl ?_
      refine TL.guardYes (d := 139) rfl rfl rfl ?_
      refine TL.move rfl rfl ?_
      refine TL.guardYes (d := 139) rfl rfl rfl ?_
      refine TL.eql rfl rfl rfl ?_
      refine TL.pickT rfl rfl rfl rfl ?_
      refine TL.assign rfl rfl ?_
      refine TL.done ?_
      exact hK2  _ _ (by repeat (first | exact trivial | refine ⟨rfl, ?_⟩ | refine ⟨congrArg (fun b => some (Value.bool b)) (by first | exact (decide_eq_true (by grind)).symm | exact (decide_eq_false (by grind)).symm | exact decide_eq_decide.2 (by grind) | exact decide_eq_true (by grind) | exact decide_eq_false (by grind) | (exfalso; grind)), ?_⟩)) (hc115.trans0 hc117)
    ·
      have d104 := hc111.trans0 hA; have d97 := hc104.trans0 d104; have d90 := hc97.trans0 d97; have d83 := hc90.trans0 d90; have d76 := hc83.trans0 d83; have d69 := hc76.trans0 d76; have d62 := hc69.trans0 d69; have d55 := hc62.trans0 d62; have d49 := hc55.trans0 d55; have d41 := hc49.trans0 d49
      refine TC.cut0 ([(0, .slice ad l.length c), (13, .slice (some ⟨g41, 0, none⟩) (l.length + 1) c41), (14, .slice (some ⟨g41, 0, none⟩) l.length c41), (15, r49), (19, r62), (23, r76), (27, r90), (31, r104), (35, .bool true), (36, .bool true)]) (fun wb => Ch [] wa wb) (fun K3 hK3 => ?_) (fun wb hB => ?_)
      ·
        refine TC.region ?_
        refine TL.move rfl rfl ?_
        refine TL.move rfl rfl ?_
        refine TL.call can11 rfl rfl (fn11 _ _ _ _ wa (Rd.ofOwn (hv49.ch0 d49)) (Rd.ofOwn (hv55.ch0 d55))) (fun v146 w146 hr146 => ?_)
        obtain ⟨rfl, hc146⟩ := hr146
        refine TL.yes (rfl) ?_
        refine TL.move rfl rfl ?_
        refine TL.guardYes (d := 147) rfl rfl rfl ?_
        refine TL.move rfl rfl ?_
        refine TL.guardYes (d := 147) rfl rfl rfl ?_
        refine TL.move rfl rfl ?_
        refine TL.guardYes (d := 147) rfl rfl rfl ?_
        refine TL.call can11 rfl rfl (fn11 _ _ _ _ w146 (Rd.ofOwn ((hv62.ch0 d62).ch0 hc146)) (Rd.ofOwn ((hv69.ch0 d69).ch0 hc146))) (fun v150 w150 hr150 => ?_)
        obtain ⟨rfl, hc150⟩ := hr150
        have g150 := hc146.trans0 hc150
        refine TL.yes (rfl) ?_
        refine TL.pickT rfl rfl rfl rfl ?_
        refine TL.move rfl rfl ?_
        refine TL.guardYes (d := 152) rfl rfl rfl ?_
        refine TL.move rfl rfl ?_
        refine TL.guardYes (d := 152) rfl rfl rfl ?_
        refine TL.move rfl rfl ?_
        refine TL.guardYes (d := 152) rfl rfl rfl ?_
        refine TL.call can11 rfl rfl (fn11 _ _ _ _ w150 (Rd.ofOwn ((hv76.ch0 d76).ch0 g150)) (Rd.ofOwn ((hv83.ch0 d83).ch0 g150))) (fun v155 w155 hr155 => ?_)
        obtain ⟨rfl, hc155⟩ := hr155
        have g155 := g150.trans0 hc155
        refine TL.yes (rfl) ?_
        refine TL.pickT rfl rfl rfl rfl ?_
        refine TL.move rfl rfl ?_
        refine TL.guardYes (d := 157) rfl rfl rfl ?_
        refine TL.move rfl rfl ?_
        refine TL.guardYes (d := 157) rfl rfl rfl ?_
        refine TL.move rfl rfl ?_
        refine TL.guardYes (d := 157) rfl rfl rfl ?_
        refine TL.call can11 rfl rfl (fn11 _ _ _ _ w155 (Rd.ofOwn ((hv90.ch0 d90).ch0 g155)) (Rd.ofOwn ((hv97.ch0 d97).ch0 g155))) (fun v160 w160 hr160 => ?_)
        obtain ⟨rfl, hc160⟩ := hr160
        have g160 := g155.trans0 hc160
        refine TL.yes (rfl) ?_
        refine TL.pickT rfl rfl rfl rfl ?_
        refine TL.move rfl rfl ?_
        refine TL.guardYes (d := 162) rfl rfl rfl ?_
        refine TL.move rfl rfl ?_
        refine TL.guardYes (d := 162) rfl rfl rfl ?_
        refine TL.move rfl rfl ?_
        refine TL.guardYes (d := 162) rfl rfl rfl ?_
        refine TL.call can11 rfl rfl (fn11 _ _ _ _ w160 (Rd.ofOwn ((hv104.ch0 d104).ch0 g160)) (Rd.ofOwn ((hv111.ch0 hA).ch0 g160))) (fun v165 w165 hr165 => ?_)
        obtain ⟨rfl, hc165⟩ := hr165
        have g165 := g160.trans0 hc165
        refine TL.pickT rfl rfl rfl rfl ?_
        refine TL.assign rfl rfl ?_
        refine TL.done ?_
        exact hK3  _ _ (by repeat (first | exact trivial | refine ⟨rfl, ?_⟩ | refine ⟨congrArg (fun b => some (Value.bool b)) (by first | exact (decide_eq_true (by grind)).symm | exact (decide_eq_false (by grind)).symm | exact decide_eq_decide.2 (by grind) | exact decide_eq_true (by grind) | exact decide_eq_false (by grind) | (exfalso; grind)), ?_⟩)) (g165)
      ·
        have s49 := hc49.size; have s55 := hc55.size; have s62 := hc62.size; have s69 := hc69.size; have s76 := hc76.size; have s83 := hc83.size; have s90 := hc90.size; have s97 := hc97.size
        have o1 := hv49.ch0 (d49.trans0 hB)
        have o2 := hv62.ch0 (d62.trans0 hB)
        have o3 := hv76.ch0 (d76.trans0 hB)
        have o4 := hv90.ch0 (d90.trans0 hB)
        have o5 := hv104.ch0 (d104.trans0 hB)
        refine TC.seq ?_
        refine TC.region ?_
        refine TL.move rfl rfl ?_
        refine TL.call can12 rfl rfl (fn12 _ w41.heap.size _ wb o1) (fun v168 w168 hr168 => ?_)
        have o2a := o2.ch hr168 (Own.away hv49 (by omega) o2)
        have o3a := o3.ch hr168 (Own.away hv49 (by omega) o3)
        have o4a := o4.ch hr168 (Own.away hv49 (by omega) o4)
        have o5a := o5.ch hr168 (Own.away hv49 (by omega) o5)
        have k1 : Ch [] w41 w168 := Own.thenCh o1 (d41.trans0 hB) hr168
        refine TL.done ?_
        refine Thn.go ?_
        refine TC.seq ?_
        refine TC.region ?_
        refine TL.move rfl rfl ?_
        refine TL.call can12 rfl rfl (fn12 _ w55.heap.size _ w168 o2a) (fun v170 w170 hr170 => ?_)
        have o3b := o3a.ch hr170 (Own.away hv62 (by omega) o3a)
        have o4b := o4a.ch hr170 (Own.away hv62 (by omega) o4a)
        have o5b := o5a.ch hr170 (Own.away hv62 (by omega) o5a)
        have k2 : Ch [] w41 w170 := Own.thenCh' o2a k1 hr170 (by omega)
        refine TL.done ?_
        refine Thn.go ?_
        refine TC.seq ?_
        refine TC.region ?_
        refine TL.move rfl rfl ?_
        refine TL.call can12 rfl rfl (fn12 _ w69.heap.size _ w170 o3b) (fun v172 w172 hr172 => ?_)
        have o4c := o4b.ch hr172 (Own.away hv76 (by omega) o4b)
        have o5c := o5b.ch hr172 (Own.away hv76 (by omega) o5b)
        have k3 : Ch [] w41 w172 := Own.thenCh' o3b k2 hr172 (by omega)
        refine TL.done ?_
        refine Thn.go ?_
        refine TC.seq ?_
        refine TC.region ?_
        refine TL.move rfl rfl ?_
        refine TL.call can12 rfl rfl (fn12 _ w83.heap.size _ w172 o4c) (fun v174 w174 hr174 => ?_)
        have o5d := o5c.ch hr174 (Own.away hv90 (by omega) o5c)
        have k4 : Ch [] w41 w174 := Own.thenCh' o4c k3 hr174 (by omega)
        refine TL.done ?_
        refine Thn.go ?_
        refine TC.seq ?_
        refine TC.region ?_
        refine TL.move rfl rfl ?_
        refine TL.call can12 rfl rfl (fn12 _ w97.heap.size _ w174 o5d) (fun v176 w176 hr176 => ?_)
        have k5 : Ch [] w41 w176 := Own.thenCh' o5d k4 hr176 (by omega)
        refine TL.done ?_
        refine Thn.go ?_
        refine TC.cut0 ([(12, .bool true)]) (fun w2 => Ch [] w176 w2) (fun K4 hK4 => ?_) (fun w2 hE => ?_)
        ·
          refine TC.region ?_
          refine TL.move rfl rfl ?_
          refine TL.emB (fun e177 => ?_) (fun e177 => ?_)
          ·
            refine TL.move rfl rfl ?_
            refine TL.guardYes (d := 178) rfl rfl rfl ?_
            refine TL.move rfl rfl ?_
            refine TL.emB (fun e179 => ?_) (fun e179 => ?_)
            ·
              refine TL.pickT rfl rfl rfl rfl ?_
              refine TL.move rfl rfl ?_
              refine TL.guardYes (d := 181) rfl rfl rfl ?_
              refine TL.move rfl rfl ?_
              refine TL.guardYes (d := 181) rfl rfl rfl ?_
              refine TL.move rfl rfl ?_
              refine TL.guardYes (d := 181) rfl rfl rfl ?_
              refine TL.call can11 rfl rfl (fn11 _ _ l l w176 (ho.ch0 k5) ((haa.ch0 hc41).ch0 k5)) (fun v184 w184 hr184 => ?_)
              obtain ⟨rfl, hc184⟩ := hr184
              refine TL.yes (rfl) ?_
              refine TL.pickT rfl rfl rfl rfl ?_
              refine TL.move rfl rfl ?_
              refine TL.guardYes (d := 186) rfl rfl rfl ?_
              refine TL.move rfl rfl ?_
              refine TL.guardYes (d := 186) rfl rfl rfl ?_
              refine TL.move rfl rfl ?_
              refine TL.guardYes (d := 186) rfl rfl rfl ?_
              refine TL.lenSlice Try.underlying22 rfl rfl ?_
              refine TL.guardYes (d := 186) rfl rfl rfl ?_
              refine TL.indexAddr (l.length) sl22 rfl rfl (by first | rfl | omega) (by omega) rfl ?_
              refine TL.guardYes (d := 186) rfl rfl rfl ?_
              refine TL.loadAgg (cl r77) ag33 rfl rfl (fun j hj => by obtain ⟨b', o', e, hh⟩ := recAt (i := l.length) (l := l ++ [r77]) (by rw [List.length_append]; exact ((Rd.ofOwn hv41).ch0 k5).ch0 hc184) (by simp); cases e; rw [Wk.rec_last] at hh; exact hh j hj) rfl ?_
              refine TL.guardYes (d := 186) rfl rfl rfl ?_
              refine TL.buildRec [0] [.const (Value.int IntKind.i64 77)] (cl r77) rfl rfl (by kernel_rfl) rfl ?_
              refine TL.guardYes (d := 186) rfl rfl rfl ?_
              refine TL.eqlAgg gd33 (eqWork _ _ _) rfl rfl rfl ?_
              refine TL.pickT rfl rfl rfl rfl ?_
              refine TL.assign rfl rfl ?_
              refine TL.done ?_
              exact hK4  _ _ (by repeat (first | exact trivial | refine ⟨rfl, ?_⟩ | refine ⟨congrArg (fun b => some (Value.bool b)) (by first | exact (decide_eq_true (by grind)).symm | exact (decide_eq_false (by grind)).symm | exact decide_eq_decide.2 (by grind) | exact decide_eq_true (by grind) | exact decide_eq_false (by grind) | (exfalso; grind)), ?_⟩)) (by first | exact hc184 | exact absurd e177 (by decide) | exact absurd e179 (by decide))
            ·
              refine TL.pickT rfl rfl rfl rfl ?_
              refine TL.move rfl rfl ?_
              refine TL.guardNo (d := 181) rfl rfl rfl rfl rfl ?_
              refine TL.guardNo (d := 181) rfl rfl rfl rfl rfl ?_
              refine TL.guardNo (d := 181) rfl rfl rfl rfl rfl ?_
              refine TL.pickF rfl rfl rfl rfl ?_
              refine TL.move rfl rfl ?_
              refine TL.guardNo (d := 186) rfl rfl rfl rfl rfl ?_
              refine TL.guardNo (d := 186) rfl rfl rfl rfl rfl ?_
              refine TL.guardNo (d := 186) rfl rfl rfl rfl rfl ?_
              refine TL.guardNo (d := 186) rfl rfl rfl rfl rfl ?_
              refine TL.guardNo (d := 186) rfl rfl rfl rfl rfl ?_
              refine TL.guardNo (d := 186) rfl rfl rfl rfl rfl ?_
              refine TL.guardNo (d := 186) rfl rfl rfl rfl rfl ?_
              refine TL.pickF rfl rfl rfl rfl ?_
              refine TL.assign rfl rfl ?_
              refine TL.done ?_
              exact hK4  _ _ (by repeat (first | exact trivial | refine ⟨rfl, ?_⟩ | refine ⟨congrArg (fun b => some (Value.bool b)) (by first | exact (decide_eq_true (by grind)).symm | exact (decide_eq_false (by grind)).symm | exact decide_eq_decide.2 (by grind) | exact decide_eq_true (by grind) | exact decide_eq_false (by grind) | (exfalso; grind)), ?_⟩)) (by first | exact hc184 | exact absurd e177 (by decide) | exact absurd e179 (by decide))
          ·
            refine TL.move rfl rfl ?_
            refine TL.guardNo (d := 178) rfl rfl rfl rfl rfl ?_
            refine TL.pickF rfl rfl rfl rfl ?_
            refine TL.move rfl rfl ?_
            refine TL.guardNo (d := 181) rfl rfl rfl rfl rfl ?_
            refine TL.guardNo (d := 181) rfl rfl rfl rfl rfl ?_
            refine TL.guardNo (d := 181) rfl rfl rfl rfl rfl ?_
            refine TL.pickF rfl rfl rfl rfl ?_
            refine TL.move rfl rfl ?_
            refine TL.guardNo (d := 186) rfl rfl rfl rfl rfl ?_
            refine TL.guardNo (d := 186) rfl rfl rfl rfl rfl ?_
            refine TL.guardNo (d := 186) rfl rfl rfl rfl rfl ?_
            refine TL.guardNo (d := 186) rfl rfl rfl rfl rfl ?_
            refine TL.guardNo (d := 186) rfl rfl rfl rfl rfl ?_
            refine TL.guardNo (d := 186) rfl rfl rfl rfl rfl ?_
            refine TL.guardNo (d := 186) rfl rfl rfl rfl rfl ?_
            refine TL.pickF rfl rfl rfl rfl ?_
            refine TL.assign rfl rfl ?_
            refine TL.done ?_
            exact hK4  _ _ (by repeat (first | exact trivial | refine ⟨rfl, ?_⟩ | refine ⟨congrArg (fun b => some (Value.bool b)) (by first | exact (decide_eq_true (by grind)).symm | exact (decide_eq_false (by grind)).symm | exact decide_eq_decide.2 (by grind) | exact decide_eq_true (by grind) | exact decide_eq_false (by grind) | (exfalso; grind)), ?_⟩)) (by first | exact hc184 | exact absurd e177 (by decide) | exact absurd e179 (by decide))
        ·
          refine TC.ret ?_
          refine Ends.ret [12] rfl rfl ?_
          exact ⟨rfl, ((hc7.trans0 hc41).trans0 k5).trans0 hE⟩

