/- Contracts on whole structs. -/
import Derived.Test.YtfifcnojkjjnkaaGreatNy
import Derived.Test.YtfifcnojkjjnkaaGreatNi
import Derived.Test.YtfifcnojkjjnkaaGreatNj
import Derived.Test.YtfifcnojkjjnkaaGreatNh
namespace Go.Proofs.YtfifcnojkjjnkaaGreat
open Go.RowKit
theorem T.rds_below {w w' : World} {x : List T} {cs : List Value} (h : T.rds w x cs) (hb : Below w.heap.size w w') : T.rds w' x cs := T.rds_keep hb.size hb.block x cs h
theorem b_toSession (x : GSession) (cs : List Value) (w : World) (hs : x.small) (h : T.rds w x.fs cs) : Calls Tryz.prog 35 #[.agg cs.toArray] w fun e w' => ∃ ds, e = .returned (.agg ds.toArray) ∧ T.rds w' x.fs ds ∧ Below w.heap.size w w' := by
  obtain ⟨v1, v2, v3, v4, v5, rfl, h1, h2, h3, h4, h5⟩ := GSession.rd_open h
  refine (c_toSession x _ _ _ _ _ w hs h1 h2 h3 h4 h5).mono ?_
  rintro e w' ⟨u1, F1, u2, F2, u3, F3, u4, F4, u5, F5, rfl, o1, o2, o3, o4, o5, sg, hb⟩
  exact ⟨_, rfl, GSession.rd_mk (T.ow_rd _ _ _ o1) (T.ow_rd _ _ _ o2) (T.ow_rd _ _ _ o3) (T.ow_rd _ _ _ o4) (T.ow_rd _ _ _ o5), hb⟩
theorem b_eqSession (x : GSession) (cs ds : List Value) (w : World) (h : T.rds w x.fs cs) (g : T.rds w x.fs ds) : Calls Tryz.prog 38 #[.agg cs.toArray, .agg ds.toArray] w fun e w' => e = .returned (.bool true) ∧ Below w.heap.size w w' := by
  obtain ⟨v1, v2, v3, v4, v5, rfl, h1, h2, h3, h4, h5⟩ := GSession.rd_open h
  obtain ⟨u1, u2, u3, u4, u5, rfl, k1, k2, k3, k4, k5⟩ := GSession.rd_open g
  exact c_eqSession x _ _ _ _ _ _ _ _ _ _ w h1 h2 h3 h4 h5 k1 k2 k3 k4 k5
theorem b_toCache (x : GCache) (cs : List Value) (w : World) (hs : x.small) (h : T.rds w x.fs cs) : Calls Tryz.prog 18 #[.agg cs.toArray] w fun e w' => ∃ ds, e = .returned (.agg ds.toArray) ∧ T.rds w' x.fs ds ∧ Below w.heap.size w w' := by
  obtain ⟨v1, v2, v3, v4, v5, v6, v7, rfl, h1, h2, h3, h4, h5, h6, h7⟩ := GCache.rd_open h
  refine (c_toCache x _ _ _ _ _ _ _ w hs h1 h2 h3 h4 h5 h6 h7).mono ?_
  rintro e w' ⟨u1, F1, u2, F2, u3, F3, u4, F4, u5, F5, u6, F6, u7, F7, rfl, o1, o2, o3, o4, o5, o6, o7, sg, hb⟩
  exact ⟨_, rfl, GCache.rd_mk (T.ow_rd _ _ _ o1) (T.ow_rd _ _ _ o2) (T.ow_rd _ _ _ o3) (T.ow_rd _ _ _ o4) (T.ow_rd _ _ _ o5) (T.ow_rd _ _ _ o6) (T.ow_rd _ _ _ o7), hb⟩
theorem b_eqCache (x : GCache) (cs ds : List Value) (w : World) (h : T.rds w x.fs cs) (g : T.rds w x.fs ds) : Calls Tryz.prog 20 #[.agg cs.toArray, .agg ds.toArray] w fun e w' => e = .returned (.bool true) ∧ Below w.heap.size w w' := by
  obtain ⟨v1, v2, v3, v4, v5, v6, v7, rfl, h1, h2, h3, h4, h5, h6, h7⟩ := GCache.rd_open h
  obtain ⟨u1, u2, u3, u4, u5, u6, u7, rfl, k1, k2, k3, k4, k5, k6, k7⟩ := GCache.rd_open g
  exact c_eqCache x _ _ _ _ _ _ _ _ _ _ _ _ _ _ w h1 h2 h3 h4 h5 h6 h7 k1 k2 k3 k4 k5 k6 k7
theorem b_toDesk (x : GDesk) (cs : List Value) (w : World) (hs : x.small) (h : T.rds w x.fs cs) : Calls Tryz.prog 13 #[.agg cs.toArray] w fun e w' => ∃ ds, e = .returned (.agg ds.toArray) ∧ T.rds w' x.fs ds ∧ Below w.heap.size w w' := by
  obtain ⟨v0, v1, v6, v7, v9, v10, v11, v12, v13, rfl, h0, h1, h6, h7, h9, h10, h11, h12, h13⟩ := GDesk.rd_open h
  refine (c_toDesk x _ _ _ _ _ _ _ _ _ w hs h0 h1 h6 h7 h9 h10 h11 h12 h13).mono ?_
  rintro e w' ⟨u0, F0, u1, F1, u6, F6, u7, F7, u9, F9, u10, F10, u11, F11, u12, F12, u13, F13, rfl, o0, o1, o6, o7, o9, o10, o11, o12, o13, sg, hb⟩
  exact ⟨_, rfl, GDesk.rd_mk (T.ow_rd _ _ _ o0) (T.ow_rd _ _ _ o1) (T.ow_rd _ _ _ o6) (T.ow_rd _ _ _ o7) (T.ow_rd _ _ _ o9) (T.ow_rd _ _ _ o10) (T.ow_rd _ _ _ o11) (T.ow_rd _ _ _ o12) (T.ow_rd _ _ _ o13), hb⟩
theorem b_eqDesk (x : GDesk) (cs ds : List Value) (w : World) (h : T.rds w x.fs cs) (g : T.rds w x.fs ds) : Calls Tryz.prog 15 #[.agg cs.toArray, .agg ds.toArray] w fun e w' => e = .returned (.bool true) ∧ Below w.heap.size w w' := by
  obtain ⟨v0, v1, v6, v7, v9, v10, v11, v12, v13, rfl, h0, h1, h6, h7, h9, h10, h11, h12, h13⟩ := GDesk.rd_open h
  obtain ⟨u0, u1, u6, u7, u9, u10, u11, u12, u13, rfl, k0, k1, k6, k7, k9, k10, k11, k12, k13⟩ := GDesk.rd_open g
  exact c_eqDesk x _ _ _ _ _ _ _ _ _ _ _ _ _ _ _ _ _ _ w h0 h1 h6 h7 h9 h10 h11 h12 h13 k0 k1 k6 k7 k9 k10 k11 k12 k13
end Go.Proofs.YtfifcnojkjjnkaaGreat
