/- The program's tables,by program. -/
import Derived.Test.YtcmlfgcnichcdaaGreatDoorTw
import Derived.Test.YtcmlfgcnichcdaaGreatDoorArena
import Derived.Test.YtcmlfgcnichcdaaGreatDoorProg
namespace Go.Proofs.YtcmlfgcnichcdaaGreatDoor
open Go
def An.enc (x : An) : List Value:=[sV x.Site,iV x.No,iV x.At,iV x.Kind,sV x.Who,sV x.Club,sV x.Race,iV x.Time,iV x.Fault,sV x.Of,iV x.Other]
theorem An.enc_ok : Enc 11 An.enc:=⟨fun _=>rfl,fun _ u h=>by simp [An.enc] at h; rcases h with rfl | rfl | rfl | rfl | rfl | rfl | rfl | rfl | rfl | rfl | rfl <;> rfl⟩
def Cz.enc (x : Cz) : List Value:=[sV x.site_,iV x.no_]
theorem Cz.enc_ok : Enc 2 Cz.enc:=⟨fun _=>rfl,fun _ u h=>by simp [Cz.enc] at h; rcases h with rfl | rfl <;> rfl⟩
def Ed.enc (x : Ed) : List Value:=[sV x.Key,iV x.Metres,iV x.Stroke,iV x.Course,iV x.Legs,iV x.Sex,iV x.Young,iV x.Old]
theorem Ed.enc_ok : Enc 8 Ed.enc:=⟨fun _=>rfl,fun _ u h=>by simp [Ed.enc] at h; rcases h with rfl | rfl | rfl | rfl | rfl | rfl | rfl | rfl <;> rfl⟩
def Lq.enc (x : Lq) : List Value:=[iV x.Size,iV x.Many,iV x.Reserves]
theorem Lq.enc_ok : Enc 3 Lq.enc:=⟨fun _=>rfl,fun _ u h=>by simp [Lq.enc] at h; rcases h with rfl | rfl | rfl <;> rfl⟩
def Kx.enc (x : Kx) : List Value:=[sV x.Who,iV x.Time]
theorem Kx.enc_ok : Enc 2 Kx.enc:=⟨fun _=>rfl,fun _ u h=>by simp [Kx.enc] at h; rcases h with rfl | rfl <;> rfl⟩
structure R71 where
  mk ::
  (Points : RS)
  (Relay : Int)
  (Most : Int)
def R71.enc (x : R71) : List Value:=[x.Points.val,iV x.Relay,iV x.Most]
theorem R71.enc_ok : Enc 3 R71.enc:=⟨fun _=>rfl,fun x u h=>by
    simp only [R71.enc,List.mem_cons,List.not_mem_nil,or_false] at h
    rcases h with rfl | rfl | rfl
    · exact x.Points.property
    · exact rfl
    · exact rfl⟩
def Vv (φ : View) (x : Pz) (r : R71) : Prop:=∃ u1 : RS,r = ⟨u1,x.Relay,x.Most⟩ ∧ Slc φ 1 u1.val (x.Points.map eInt)
theorem Wf {φ ψ : View} (l : View.le φ ψ) (x : Pz) (r : R71) (h : Vv φ x r) : Vv ψ x r:=by
  obtain ⟨u1,e,h1⟩:=h
  exact ⟨u1,e,h1.mono l⟩
theorem rels_71 {φ ψ : View} (l : View.le φ ψ) {xs : List Pz} {rs : List R71} (h : Kr (Vv φ) xs rs) : Kr (Vv ψ) xs rs:=h.chg (Wf l)
structure R75 where
  mk ::
  (Races : RS)
  (Table : R71)
  (Final : Lq)
def R75.enc (x : R75) : List Value:=[x.Races.val] ++ R71.enc x.Table ++ [iV x.Final.Size,iV x.Final.Many,iV x.Final.Reserves]
theorem R75.enc_ok : Enc 7 R75.enc:=⟨fun x=>by simp [R75.enc,R71.enc_ok.len],fun x u h=>by
    simp only [R75.enc,List.mem_append,List.mem_cons,List.not_mem_nil,or_false] at h
    first
    | (rcases h with (h | h) | h
       · rcases h with rfl
         · exact x.Races.property
       · exact R71.enc_ok.one _ u h
       · rcases h with rfl | rfl | rfl
         · exact rfl
         · exact rfl
         · exact rfl)⟩
def Pk (φ : View) (x : Lt) (r : R75) : Prop:=∃ u1 : RS,∃ u2 : R71,r = ⟨u1,u2,x.Final⟩ ∧ Slc φ 8 u1.val (x.Races.map Ed.enc) ∧ Vv φ x.Table u2
theorem Wg {φ ψ : View} (l : View.le φ ψ) (x : Lt) (r : R75) (h : Pk φ x r) : Pk ψ x r:=by
  obtain ⟨u1,u2,e,h1,h2⟩:=h
  exact ⟨u1,u2,e,h1.mono l,Wf l _ _ h2⟩
theorem rels_75 {φ ψ : View} (l : View.le φ ψ) {xs : List Lt} {rs : List R75} (h : Kr (Pk φ) xs rs) : Kr (Pk ψ) xs rs:=h.chg (Wg l)
structure Uw where
  mk ::
  (p_ : R75)
  (deeds_ : RS)
def Uw.enc (x : Uw) : List Value:=R75.enc x.p_ ++ [x.deeds_.val]
theorem Uw.enc_ok : Enc 8 Uw.enc:=⟨fun x=>by simp [Uw.enc,R75.enc_ok.len],fun x u h=>by
    simp only [Uw.enc,List.mem_append,List.mem_cons,List.not_mem_nil,or_false] at h
    first
    | (rcases h with h | h
       · exact R75.enc_ok.one _ u h
       · rcases h with rfl
         · exact x.deeds_.property)⟩
def Si (φ : View) (x : Ib) (r : Uw) : Prop:=∃ u1 : R75,∃ u2 : RS,r = ⟨u1,u2⟩ ∧ Pk φ x.p_ u1 ∧ Slc φ 11 u2.val (x.deeds_.map An.enc)
theorem Mu {φ ψ : View} (l : View.le φ ψ) (x : Ib) (r : Uw) (h : Si φ x r) : Si ψ x r:=by
  obtain ⟨u1,u2,e,h1,h2⟩:=h
  exact ⟨u1,u2,e,Wg l _ _ h1,h2.mono l⟩
theorem rels_135 {φ ψ : View} (l : View.le φ ψ) {xs : List Ib} {rs : List Uw} (h : Kr (Si φ) xs rs) : Kr (Si ψ) xs rs:=h.chg (Mu l)
theorem Tryz.mixed : Tryz.prog.follows .mixedOrders = true:=by kernel_rfl
theorem Kz : SlT Tryz.prog 22 3 1 8:=Sz (z:=(iV 0)) Tryz.underlying22 Tryz.sizeOf3 (by kernel_rfl) rfl
theorem Es : SlT Tryz.prog 26 33 11 128:=Sz (z:=(.agg #[sV Cw,iV 0,iV 0,iV 0,sV Cw,sV Cw,sV Cw,iV 0,iV 0,sV Cw,iV 0])) Tryz.underlying26 Tryz.sizeOf33 (by kernel_rfl) rfl
theorem sl_63 : SlT Tryz.prog 63 35 1 8:=Sz (z:=(iV 0)) Tryz.underlying63 Tryz.sizeOf35 (by kernel_rfl) rfl
theorem Ux : SlT Tryz.prog 69 68 8 72:=Sz (z:=(.agg #[sV Cw,iV 0,iV 0,iV 0,iV 0,iV 0,iV 0,iV 0])) Tryz.underlying69 Tryz.sizeOf68 (by kernel_rfl) rfl
theorem FC : SlT Tryz.prog 76 80 2 24:=Sz (z:=(.agg #[sV Cw,iV 0])) Tryz.underlying76 Tryz.sizeOf80 (by kernel_rfl) rfl
theorem sl_81 : SlT Tryz.prog 81 9 1 16:=Sz (z:=(sV Cw)) Tryz.underlying81 Tryz.sizeOf9 (by kernel_rfl) rfl
theorem Wu : Me Tryz.prog 25 0 0:=⟨_,_,_,Tryz.underlying25,rfl,Tryz.sizeOf22,rfl,rfl⟩
theorem Uy : Me Tryz.prog 25 1 1:=⟨_,_,_,Tryz.underlying25,rfl,Tryz.sizeOf3,rfl,rfl⟩
theorem Ih : Me Tryz.prog 33 0 0:=⟨_,_,_,Tryz.underlying33,rfl,Tryz.sizeOf9,rfl,rfl⟩
theorem Hd : Me Tryz.prog 33 1 1:=⟨_,_,_,Tryz.underlying33,rfl,Tryz.sizeOf3,rfl,rfl⟩
theorem Jv : Me Tryz.prog 33 2 2:=⟨_,_,_,Tryz.underlying33,rfl,Tryz.sizeOf3,rfl,rfl⟩
theorem Jm : Me Tryz.prog 33 3 3:=⟨_,_,_,Tryz.underlying33,rfl,Tryz.sizeOf3,rfl,rfl⟩
theorem Lv : Me Tryz.prog 33 4 4:=⟨_,_,_,Tryz.underlying33,rfl,Tryz.sizeOf9,rfl,rfl⟩
theorem Po : Me Tryz.prog 33 5 5:=⟨_,_,_,Tryz.underlying33,rfl,Tryz.sizeOf9,rfl,rfl⟩
theorem Nt : Me Tryz.prog 33 6 6:=⟨_,_,_,Tryz.underlying33,rfl,Tryz.sizeOf9,rfl,rfl⟩
theorem Od : Me Tryz.prog 33 7 7:=⟨_,_,_,Tryz.underlying33,rfl,Tryz.sizeOf3,rfl,rfl⟩
theorem Qy : Me Tryz.prog 33 8 8:=⟨_,_,_,Tryz.underlying33,rfl,Tryz.sizeOf3,rfl,rfl⟩
theorem Oe : Me Tryz.prog 33 9 9:=⟨_,_,_,Tryz.underlying33,rfl,Tryz.sizeOf9,rfl,rfl⟩
theorem Mg : Me Tryz.prog 33 10 10:=⟨_,_,_,Tryz.underlying33,rfl,Tryz.sizeOf3,rfl,rfl⟩
theorem Wv : Me Tryz.prog 68 0 0:=⟨_,_,_,Tryz.underlying68,rfl,Tryz.sizeOf9,rfl,rfl⟩
theorem Zt : Me Tryz.prog 68 1 1:=⟨_,_,_,Tryz.underlying68,rfl,Tryz.sizeOf3,rfl,rfl⟩
theorem Zu : Me Tryz.prog 68 2 2:=⟨_,_,_,Tryz.underlying68,rfl,Tryz.sizeOf3,rfl,rfl⟩
theorem Ww : Me Tryz.prog 68 3 3:=⟨_,_,_,Tryz.underlying68,rfl,Tryz.sizeOf3,rfl,rfl⟩
theorem Wx : Me Tryz.prog 68 4 4:=⟨_,_,_,Tryz.underlying68,rfl,Tryz.sizeOf3,rfl,rfl⟩
theorem fa_68_5 : Me Tryz.prog 68 5 5:=⟨_,_,_,Tryz.underlying68,rfl,Tryz.sizeOf3,rfl,rfl⟩
theorem CU : Me Tryz.prog 68 6 6:=⟨_,_,_,Tryz.underlying68,rfl,Tryz.sizeOf3,rfl,rfl⟩
theorem CV : Me Tryz.prog 68 7 7:=⟨_,_,_,Tryz.underlying68,rfl,Tryz.sizeOf3,rfl,rfl⟩
theorem Zv : Me Tryz.prog 71 0 0:=⟨_,_,_,Tryz.underlying71,rfl,Tryz.sizeOf22,rfl,rfl⟩
theorem fa_71_1 : Me Tryz.prog 71 1 1:=⟨_,_,_,Tryz.underlying71,rfl,Tryz.sizeOf3,rfl,rfl⟩
theorem fa_71_2 : Me Tryz.prog 71 2 2:=⟨_,_,_,Tryz.underlying71,rfl,Tryz.sizeOf3,rfl,rfl⟩
theorem fa_73_0 : Me Tryz.prog 73 0 0:=⟨_,_,_,Tryz.underlying73,rfl,Tryz.sizeOf3,rfl,rfl⟩
theorem fa_73_1 : Me Tryz.prog 73 1 1:=⟨_,_,_,Tryz.underlying73,rfl,Tryz.sizeOf3,rfl,rfl⟩
theorem fa_73_2 : Me Tryz.prog 73 2 2:=⟨_,_,_,Tryz.underlying73,rfl,Tryz.sizeOf3,rfl,rfl⟩
theorem Uz : Me Tryz.prog 75 0 0:=⟨_,_,_,Tryz.underlying75,rfl,Tryz.sizeOf69,rfl,rfl⟩
theorem fa_75_1 : Me Tryz.prog 75 1 1:=⟨_,_,_,Tryz.underlying75,rfl,Tryz.sizeOf71,rfl,rfl⟩
theorem fa_75_2 : Me Tryz.prog 75 2 4:=⟨_,_,_,Tryz.underlying75,rfl,Tryz.sizeOf73,rfl,rfl⟩
theorem fa_80_1 : Me Tryz.prog 80 1 1:=⟨_,_,_,Tryz.underlying80,rfl,Tryz.sizeOf3,rfl,rfl⟩
theorem AQ : Me Tryz.prog 135 0 0:=⟨_,_,_,Tryz.underlying135,rfl,Tryz.sizeOf75,rfl,rfl⟩
theorem Xj : Me Tryz.prog 135 1 7:=⟨_,_,_,Tryz.underlying135,rfl,Tryz.sizeOf26,rfl,rfl⟩
theorem eq_33 (dd : Nat) (x y : An) (w : World) : (Op.equalIn (dd + 2) 33 (.agg (An.enc x).toArray) (.agg (An.enc y).toArray)).run Tryz.prog w = .ok (decide (x = y)) w:=by
  refine Us (dd:=dd + 1) (fs:=(Tryz.prog.fieldsOf 33).toList) (by kernel_rfl) rfl (by kernel_rfl) (?_ : _ = Result.ok (decide (x.Site = y.Site) && (decide (x.No = y.No) && (decide (x.At = y.At) && (decide (x.Kind = y.Kind) && (decide (x.Who = y.Who) && (decide (x.Club = y.Club) && (decide (x.Race = y.Race) && (decide (x.Time = y.Time) && (decide (x.Fault = y.Fault) && (decide (x.Of = y.Of) && (decide (x.Other = y.Other) && true))))))))))) w) (by cases x; cases y; simp [Bool.decide_and])
  simp only [Program.fieldsOf,Tryz.underlying33]
  exact (Mf (by decide) (Gz Tryz.isAgg9 rfl) (Gz Tryz.isAgg9 rfl) (On Tryz.underlying9) (Mf (by decide) (Gz Tryz.isAgg3 rfl) (Gz Tryz.isAgg3 rfl) (Nl Tryz.underlying3) (Mf (by decide) (Gz Tryz.isAgg3 rfl) (Gz Tryz.isAgg3 rfl) (Nl Tryz.underlying3) (Mf (by decide) (Gz Tryz.isAgg3 rfl) (Gz Tryz.isAgg3 rfl) (Nl Tryz.underlying3) (Mf (by decide) (Gz Tryz.isAgg9 rfl) (Gz Tryz.isAgg9 rfl) (On Tryz.underlying9) (Mf (by decide) (Gz Tryz.isAgg9 rfl) (Gz Tryz.isAgg9 rfl) (On Tryz.underlying9) (Mf (by decide) (Gz Tryz.isAgg9 rfl) (Gz Tryz.isAgg9 rfl) (On Tryz.underlying9) (Mf (by decide) (Gz Tryz.isAgg3 rfl) (Gz Tryz.isAgg3 rfl) (Nl Tryz.underlying3) (Mf (by decide) (Gz Tryz.isAgg3 rfl) (Gz Tryz.isAgg3 rfl) (Nl Tryz.underlying3) (Mf (by decide) (Gz Tryz.isAgg9 rfl) (Gz Tryz.isAgg9 rfl) (On Tryz.underlying9) (Mf (by decide) (Gz Tryz.isAgg3 rfl) (Gz Tryz.isAgg3 rfl) (Nl Tryz.underlying3) CP)))))))))))
theorem rn_eql_33 {a : Act} {w : World} {x y : Operand} {u ty : TypeId} {m n : An} (hx : a.eval x = .agg (An.enc m).toArray) (hy : a.eval y = .agg (An.enc n).toArray) : Rn Tryz.prog a w (.binOp .eql 33 x y u) ty (.bool (decide (m = n))) :=
  CQ 2 (by kernel_rfl) (fun w=>eq_33 _ m n w) rfl hx hy
theorem Rr {a : Act} {w : World} {x y : Operand} {u ty : TypeId} {m n : An} (hx : a.eval x = .agg (An.enc m).toArray) (hy : a.eval y = .agg (An.enc n).toArray) : Rn Tryz.prog a w (.binOp .neq 33 x y u) ty (.bool (!decide (m = n))) :=
  CR 2 (by kernel_rfl) (fun w=>eq_33 _ m n w) rfl hx hy
theorem FD (dd : Nat) (x y : Cz) (w : World) : (Op.equalIn (dd + 2) 60 (.agg (Cz.enc x).toArray) (.agg (Cz.enc y).toArray)).run Tryz.prog w = .ok (decide (x = y)) w:=by
  refine Us (dd:=dd + 1) (fs:=(Tryz.prog.fieldsOf 60).toList) (by kernel_rfl) rfl (by kernel_rfl) (?_ : _ = Result.ok (decide (x.site_ = y.site_) && (decide (x.no_ = y.no_) && true)) w) (by cases x; cases y; simp [Bool.decide_and])
  simp only [Program.fieldsOf,Tryz.underlying60]
  exact (Mf (by decide) (Gz Tryz.isAgg9 rfl) (Gz Tryz.isAgg9 rfl) (On Tryz.underlying9) (Mf (by decide) (Gz Tryz.isAgg3 rfl) (Gz Tryz.isAgg3 rfl) (Nl Tryz.underlying3) CP))
theorem rn_eql_60 {a : Act} {w : World} {x y : Operand} {u ty : TypeId} {m n : Cz} (hx : a.eval x = .agg (Cz.enc m).toArray) (hy : a.eval y = .agg (Cz.enc n).toArray) : Rn Tryz.prog a w (.binOp .eql 60 x y u) ty (.bool (decide (m = n))) :=
  CQ 2 (by kernel_rfl) (fun w=>FD _ m n w) rfl hx hy
theorem rn_neq_60 {a : Act} {w : World} {x y : Operand} {u ty : TypeId} {m n : Cz} (hx : a.eval x = .agg (Cz.enc m).toArray) (hy : a.eval y = .agg (Cz.enc n).toArray) : Rn Tryz.prog a w (.binOp .neq 60 x y u) ty (.bool (!decide (m = n))) :=
  CR 2 (by kernel_rfl) (fun w=>FD _ m n w) rfl hx hy
theorem Ts : Wk Tryz.prog 60 (fun x=>Value.agg (Cz.enc x).toArray) :=
  EZ 2 rfl Tryz.underlying60 (fun em x w=>chk_agg Tryz.underlying60 (by
    intro f hf _
    simp only [List.mem_cons,List.not_mem_nil,or_false] at hf
    rcases hf with rfl | rfl
    · exact ⟨_,fun w=>Gz Tryz.isAgg9 rfl,fun w=>chk_str Tryz.underlying9⟩
    · exact ⟨_,fun w=>Gz Tryz.isAgg3 rfl,fun w=>chk_int Tryz.underlying3⟩)) FD (fun x=>by simp [Instr.sameBits,Cz.enc,DY])
theorem bt_25 : Yb Tryz.prog 25 (.agg #[.slice none 0 0,iV 0]) [(0,1),(1,1)]:=⟨_,Tryz.underlying25,Tryz.zeroValue25,fun _=>by kernel_rfl⟩
theorem CW : Yb Tryz.prog 33 (.agg #[sV Cw,iV 0,iV 0,iV 0,sV Cw,sV Cw,sV Cw,iV 0,iV 0,sV Cw,iV 0]) [(0,1),(1,1),(2,1),(3,1),(4,1),(5,1),(6,1),(7,1),(8,1),(9,1),(10,1)]:=⟨_,Tryz.underlying33,Tryz.zeroValue33,fun _=>by kernel_rfl⟩
theorem bt_60 : Yb Tryz.prog 60 (.agg #[sV Cw,iV 0]) [(0,1),(1,1)]:=⟨_,Tryz.underlying60,Tryz.zeroValue60,fun _=>by kernel_rfl⟩
theorem CX : Yb Tryz.prog 68 (.agg #[sV Cw,iV 0,iV 0,iV 0,iV 0,iV 0,iV 0,iV 0]) [(0,1),(1,1),(2,1),(3,1),(4,1),(5,1),(6,1),(7,1)]:=⟨_,Tryz.underlying68,Tryz.zeroValue68,fun _=>by kernel_rfl⟩
theorem bt_71 : Yb Tryz.prog 71 (.agg #[.slice none 0 0,iV 0,iV 0]) [(0,1),(1,1),(2,1)]:=⟨_,Tryz.underlying71,Tryz.zeroValue71,fun _=>by kernel_rfl⟩
theorem bt_73 : Yb Tryz.prog 73 (.agg #[iV 0,iV 0,iV 0]) [(0,1),(1,1),(2,1)]:=⟨_,Tryz.underlying73,Tryz.zeroValue73,fun _=>by kernel_rfl⟩
theorem bt_75 : Yb Tryz.prog 75 (.agg #[.slice none 0 0,.slice none 0 0,iV 0,iV 0,iV 0,iV 0,iV 0]) [(0,1),(1,3),(4,3)]:=⟨_,Tryz.underlying75,Tryz.zeroValue75,fun _=>by kernel_rfl⟩
theorem bt_80 : Yb Tryz.prog 80 (.agg #[sV Cw,iV 0]) [(0,1),(1,1)]:=⟨_,Tryz.underlying80,Tryz.zeroValue80,fun _=>by kernel_rfl⟩
theorem bt_135 : Yb Tryz.prog 135 (.agg #[.slice none 0 0,.slice none 0 0,iV 0,iV 0,iV 0,iV 0,iV 0,.slice none 0 0]) [(0,7),(7,1)]:=⟨_,Tryz.underlying135,Tryz.zeroValue135,fun _=>by kernel_rfl⟩
end Go.Proofs.YtcmlfgcnichcdaaGreatDoor
