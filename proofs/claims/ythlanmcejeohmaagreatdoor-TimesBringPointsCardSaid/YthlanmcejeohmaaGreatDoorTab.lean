/- The program's tables,by program. -/
import Derived.Test.YthlanmcejeohmaaGreatDoorTw
import Derived.Test.YthlanmcejeohmaaGreatDoorArena
import Derived.Test.YthlanmcejeohmaaGreatDoorProg
namespace Go.Proofs.YthlanmcejeohmaaGreatDoor
open Go
def Dw.enc (x : Dw) : List Value:=[sV x.Race,iV x.Time]
theorem Dw.enc_ok : Enc 2 Dw.enc:=⟨fun _=>rfl,fun _ u h=>by simp [Dw.enc] at h; rcases h with rfl | rfl <;> rfl⟩
def Dm.enc (x : Dm) : List Value:=[sV x.Race,sV x.Who,iV x.Time]
theorem Dm.enc_ok : Enc 3 Dm.enc:=⟨fun _=>rfl,fun _ u h=>by simp [Dm.enc] at h; rcases h with rfl | rfl | rfl <;> rfl⟩
def Di.enc (x : Di) : List Value:=[iV x.Num,iV x.Den]
theorem Di.enc_ok : Enc 2 Di.enc:=⟨fun _=>rfl,fun _ u h=>by simp [Di.enc] at h; rcases h with rfl | rfl <;> rfl⟩
def De.enc (x : De) : List Value:=[sV x.Key,iV x.Points.Num,iV x.Points.Den]
theorem De.enc_ok : Enc 3 De.enc:=⟨fun _=>rfl,fun _ u h=>by simp [De.enc] at h; rcases h with rfl | rfl | rfl <;> rfl⟩
def Df.enc (x : Df) : List Value:=[sV x.race_,sV x.who_]
theorem Df.enc_ok : Enc 2 Df.enc:=⟨fun _=>rfl,fun _ u h=>by simp [Df.enc] at h; rcases h with rfl | rfl <;> rfl⟩

theorem Tryz.mixed : Tryz.prog.follows .mixedOrders = true:=by kernel_rfl
theorem Ji : SlT Tryz.prog 22 3 1 8:=Tc (z:=(iV 0)) Tryz.underlying22 Tryz.sizeOf3 (by kernel_rfl) rfl
theorem Ot : SlT Tryz.prog 26 45 2 24:=Tc (z:=(.agg #[sV Ec,iV 0])) Tryz.underlying26 Tryz.sizeOf45 (by kernel_rfl) rfl
theorem Pi : SlT Tryz.prog 30 64 3 40:=Tc (z:=(.agg #[sV Ec,sV Ec,iV 0])) Tryz.underlying30 Tryz.sizeOf64 (by kernel_rfl) rfl
theorem Ou : SlT Tryz.prog 37 56 3 32:=Tc (z:=(.agg #[sV Ec,iV 0,iV 0])) Tryz.underlying37 Tryz.sizeOf56 (by kernel_rfl) rfl
theorem Mn : SlT Tryz.prog 59 9 1 16:=Tc (z:=(sV Ec)) Tryz.underlying59 Tryz.sizeOf9 (by kernel_rfl) rfl
theorem sl_74 : SlT Tryz.prog 74 32 1 8:=Tc (z:=(iV 0)) Tryz.underlying74 Tryz.sizeOf32 (by kernel_rfl) rfl
theorem Uh : Uq Tryz.prog 25 0 0:=⟨_,_,_,Tryz.underlying25,rfl,Tryz.sizeOf22,rfl,rfl⟩
theorem Sn : Uq Tryz.prog 25 1 1:=⟨_,_,_,Tryz.underlying25,rfl,Tryz.sizeOf3,rfl,rfl⟩
theorem Nk : Uq Tryz.prog 45 0 0:=⟨_,_,_,Tryz.underlying45,rfl,Tryz.sizeOf9,rfl,rfl⟩
theorem So : Uq Tryz.prog 45 1 1:=⟨_,_,_,Tryz.underlying45,rfl,Tryz.sizeOf3,rfl,rfl⟩
theorem Zv : Uq Tryz.prog 56 0 0:=⟨_,_,_,Tryz.underlying56,rfl,Tryz.sizeOf9,rfl,rfl⟩
theorem Mf : Uq Tryz.prog 64 0 0:=⟨_,_,_,Tryz.underlying64,rfl,Tryz.sizeOf9,rfl,rfl⟩
theorem Nl : Uq Tryz.prog 64 1 1:=⟨_,_,_,Tryz.underlying64,rfl,Tryz.sizeOf9,rfl,rfl⟩
theorem Oc : Uq Tryz.prog 64 2 2:=⟨_,_,_,Tryz.underlying64,rfl,Tryz.sizeOf3,rfl,rfl⟩
theorem Zw : Uq Tryz.prog 70 1 1:=⟨_,_,_,Tryz.underlying70,rfl,Tryz.sizeOf9,rfl,rfl⟩
theorem DB (dd : Nat) (x y : Di) (w : World) : (Op.equalIn (dd + 2) 54 (.agg (Di.enc x).toArray) (.agg (Di.enc y).toArray)).run Tryz.prog w = .ok (decide (x = y)) w:=by
  refine Pw (dd:=dd + 1) (fs:=(Tryz.prog.fieldsOf 54).toList) (by kernel_rfl) rfl (by kernel_rfl) (?_ : _ = Result.ok (decide (x.Num = y.Num) && (decide (x.Den = y.Den) && true)) w) (by cases x; cases y; simp [Bool.decide_and])
  simp only [Program.fieldsOf,Tryz.underlying54]
  exact (Pe (by decide) (Kb Tryz.isAgg3 rfl) (Kb Tryz.isAgg3 rfl) (Tr Tryz.underlying3) (Pe (by decide) (Kb Tryz.isAgg3 rfl) (Kb Tryz.isAgg3 rfl) (Tr Tryz.underlying3) Xc))
theorem rn_eql_54 {a : Act} {w : World} {x y : Operand} {u ty : TypeId} {m n : Di} (hx : a.eval x = .agg (Di.enc m).toArray) (hy : a.eval y = .agg (Di.enc n).toArray) : Rn Tryz.prog a w (.binOp .eql 54 x y u) ty (.bool (decide (m = n))) :=
  Xd 2 (by kernel_rfl) (fun w=>DB _ m n w) rfl hx hy
theorem rn_neq_54 {a : Act} {w : World} {x y : Operand} {u ty : TypeId} {m n : Di} (hx : a.eval x = .agg (Di.enc m).toArray) (hy : a.eval y = .agg (Di.enc n).toArray) : Rn Tryz.prog a w (.binOp .neq 54 x y u) ty (.bool (!decide (m = n))) :=
  Xe 2 (by kernel_rfl) (fun w=>DB _ m n w) rfl hx hy
theorem eq_56 (dd : Nat) (x y : De) (w : World) : (Op.equalIn (dd + 3) 56 (.agg (De.enc x).toArray) (.agg (De.enc y).toArray)).run Tryz.prog w = .ok (decide (x = y)) w:=by
  refine Pw (dd:=dd + 2) (fs:=(Tryz.prog.fieldsOf 56).toList) (by kernel_rfl) rfl (by kernel_rfl) (?_ : _ = Result.ok (decide (x.Key = y.Key) && (decide (x.Points = y.Points) && true)) w) (by cases x; cases y; simp [Bool.decide_and])
  simp only [Program.fieldsOf,Tryz.underlying56]
  exact (Pe (by decide) (Kb Tryz.isAgg9 rfl) (Kb Tryz.isAgg9 rfl) (Ql Tryz.underlying9) (Pe (by decide) (Xw (cs:=Di.enc x.Points) Tryz.isAgg54 Tryz.sizeOf54 rfl) (Xw (cs:=Di.enc y.Points) Tryz.isAgg54 Tryz.sizeOf54 rfl) (DB (dd + 0) x.Points y.Points w) Xc))
theorem rn_eql_56 {a : Act} {w : World} {x y : Operand} {u ty : TypeId} {m n : De} (hx : a.eval x = .agg (De.enc m).toArray) (hy : a.eval y = .agg (De.enc n).toArray) : Rn Tryz.prog a w (.binOp .eql 56 x y u) ty (.bool (decide (m = n))) :=
  Xd 3 (by kernel_rfl) (fun w=>eq_56 _ m n w) rfl hx hy
theorem BO {a : Act} {w : World} {x y : Operand} {u ty : TypeId} {m n : De} (hx : a.eval x = .agg (De.enc m).toArray) (hy : a.eval y = .agg (De.enc n).toArray) : Rn Tryz.prog a w (.binOp .neq 56 x y u) ty (.bool (!decide (m = n))) :=
  Xe 3 (by kernel_rfl) (fun w=>eq_56 _ m n w) rfl hx hy
theorem DC (dd : Nat) (x y : Df) (w : World) : (Op.equalIn (dd + 2) 70 (.agg (Df.enc x).toArray) (.agg (Df.enc y).toArray)).run Tryz.prog w = .ok (decide (x = y)) w:=by
  refine Pw (dd:=dd + 1) (fs:=(Tryz.prog.fieldsOf 70).toList) (by kernel_rfl) rfl (by kernel_rfl) (?_ : _ = Result.ok (decide (x.race_ = y.race_) && (decide (x.who_ = y.who_) && true)) w) (by cases x; cases y; simp [Bool.decide_and])
  simp only [Program.fieldsOf,Tryz.underlying70]
  exact (Pe (by decide) (Kb Tryz.isAgg9 rfl) (Kb Tryz.isAgg9 rfl) (Ql Tryz.underlying9) (Pe (by decide) (Kb Tryz.isAgg9 rfl) (Kb Tryz.isAgg9 rfl) (Ql Tryz.underlying9) Xc))
theorem rn_eql_70 {a : Act} {w : World} {x y : Operand} {u ty : TypeId} {m n : Df} (hx : a.eval x = .agg (Df.enc m).toArray) (hy : a.eval y = .agg (Df.enc n).toArray) : Rn Tryz.prog a w (.binOp .eql 70 x y u) ty (.bool (decide (m = n))) :=
  Xd 2 (by kernel_rfl) (fun w=>DC _ m n w) rfl hx hy
theorem rn_neq_70 {a : Act} {w : World} {x y : Operand} {u ty : TypeId} {m n : Df} (hx : a.eval x = .agg (Df.enc m).toArray) (hy : a.eval y = .agg (Df.enc n).toArray) : Rn Tryz.prog a w (.binOp .neq 70 x y u) ty (.bool (!decide (m = n))) :=
  Xe 2 (by kernel_rfl) (fun w=>DC _ m n w) rfl hx hy
theorem Zx : BG Tryz.prog 70 (fun x=>Value.agg (Df.enc x).toArray) :=
  CW 2 rfl Tryz.underlying70 (fun em x w=>chk_agg Tryz.underlying70 (by
    intro f hf _
    simp only [List.mem_cons,List.not_mem_nil,or_false] at hf
    rcases hf with rfl | rfl
    · exact ⟨_,fun w=>Kb Tryz.isAgg9 rfl,fun w=>Zq Tryz.underlying9⟩
    · exact ⟨_,fun w=>Kb Tryz.isAgg9 rfl,fun w=>Zq Tryz.underlying9⟩)) DC (fun x=>by simp [Instr.sameBits,Df.enc,BI])
theorem bt_25 : Yu Tryz.prog 25 (.agg #[.slice none 0 0,iV 0]) [(0,1),(1,1)]:=⟨_,Tryz.underlying25,Tryz.zeroValue25,fun _=>by kernel_rfl⟩
theorem bt_45 : Yu Tryz.prog 45 (.agg #[sV Ec,iV 0]) [(0,1),(1,1)]:=⟨_,Tryz.underlying45,Tryz.zeroValue45,fun _=>by kernel_rfl⟩
theorem bt_54 : Yu Tryz.prog 54 (.agg #[iV 0,iV 0]) [(0,1),(1,1)]:=⟨_,Tryz.underlying54,Tryz.zeroValue54,fun _=>by kernel_rfl⟩
theorem bt_56 : Yu Tryz.prog 56 (.agg #[sV Ec,iV 0,iV 0]) [(0,1),(1,2)]:=⟨_,Tryz.underlying56,Tryz.zeroValue56,fun _=>by kernel_rfl⟩
theorem bt_64 : Yu Tryz.prog 64 (.agg #[sV Ec,sV Ec,iV 0]) [(0,1),(1,1),(2,1)]:=⟨_,Tryz.underlying64,Tryz.zeroValue64,fun _=>by kernel_rfl⟩
theorem bt_70 : Yu Tryz.prog 70 (.agg #[sV Ec,sV Ec]) [(0,1),(1,1)]:=⟨_,Tryz.underlying70,Tryz.zeroValue70,fun _=>by kernel_rfl⟩
end Go.Proofs.YthlanmcejeohmaaGreatDoor
