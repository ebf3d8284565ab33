/- Lemmas: Fdw. -/
import Derived.Test.YtpojjmbalgmcoaaGreatProg
import Derived.Test.YtpojjmbalgmcoaaGreatStWw1
set_option linter.unusedVariables false
set_option linter.unusedSimpArgs false
set_option maxRecDepth 100000
set_option maxHeartbeats 16000000
namespace Go.Proofs.YtpojjmbalgmcoaaGreat
open Go.RowKit
theorem width8 (w:World) :
  Calls Tryz.prog 86 #[] w fun e w'=>e = .returned (.int .i64 1)∧w=w':=by
 go_enter Tryz.func86,Tryz.ntmps86
 go_wp2
 go_loop [1,2] (fun vn vt=>(vn = .int .i64 0∧vt = .int .u8 255)∨(vn = .int .i64 1∧vt = .int .u8 0)) (fun vn _=>1-(intOf vn).toNat)
 case atStart=>exact .inl ⟨rfl,rfl⟩
 case round=>
  rcases hrel with ⟨rfl,rfl⟩ | ⟨rfl,rfl⟩
  ·go_wp2
   go_round
   case rel=>exact .inr (⟨rfl,rfl⟩)
   case measure=>decide
  go_wp2
  go_ret
  exact⟨rfl,rfl⟩
theorem width16 (w:World) :
  Calls Tryz.prog 84 #[] w fun e w'=>e = .returned (.int .i64 2)∧w=w':=by
 go_enter Tryz.func84,Tryz.ntmps84
 go_wp2
 go_loop [1,2] (fun vn vt=>(vn = .int .i64 0∧vt = .int .u16 65535)∨(vn = .int .i64 1∧vt = .int .u16 255)∨(vn = .int .i64 2∧vt = .int .u16 0)) (fun vn _=>2-(intOf vn).toNat)
 case atStart=>exact .inl ⟨rfl,rfl⟩
 case round=>
  rcases hrel with ⟨rfl,rfl⟩ | ⟨rfl,rfl⟩ | ⟨rfl,rfl⟩
  ·go_wp2
   go_round
   case rel=>exact .inr (.inl ⟨rfl,rfl⟩)
   case measure=>decide
  ·go_wp2
   go_round
   case rel=>exact .inr (.inr (⟨rfl,rfl⟩))
   case measure=>decide
  go_wp2
  go_ret
  exact⟨rfl,rfl⟩
theorem width32 (w:World) :
  Calls Tryz.prog 82 #[] w fun e w'=>e = .returned (.int .i64 4)∧w=w':=by
 go_enter Tryz.func82,Tryz.ntmps82
 go_wp2
 go_loop [1,2] (fun vn vt=>(vn = .int .i64 0∧vt = .int .u32 4294967295)∨(vn = .int .i64 1∧vt = .int .u32 16777215)∨(vn = .int .i64 2∧vt = .int .u32 65535)∨(vn = .int .i64 3∧vt = .int .u32 255)∨(vn = .int .i64 4∧vt = .int .u32 0)) (fun vn _=>4-(intOf vn).toNat)
 case atStart=>exact .inl ⟨rfl,rfl⟩
 case round=>
  rcases hrel with ⟨rfl,rfl⟩ | ⟨rfl,rfl⟩ | ⟨rfl,rfl⟩ | ⟨rfl,rfl⟩ | ⟨rfl,rfl⟩
  ·go_wp2
   go_round
   case rel=>exact .inr (.inl ⟨rfl,rfl⟩)
   case measure=>decide
  ·go_wp2
   go_round
   case rel=>exact .inr (.inr (.inl ⟨rfl,rfl⟩))
   case measure=>decide
  ·go_wp2
   go_round
   case rel=>exact .inr (.inr (.inr (.inl ⟨rfl,rfl⟩)))
   case measure=>decide
  ·go_wp2
   go_round
   case rel=>exact .inr (.inr (.inr (.inr (⟨rfl,rfl⟩))))
   case measure=>decide
  go_wp2
  go_ret
  exact⟨rfl,rfl⟩
theorem width64 (w:World) :
  Calls Tryz.prog 85 #[] w fun e w'=>e = .returned (.int .i64 8)∧w=w':=by
 go_enter Tryz.func85,Tryz.ntmps85
 go_wp2
 go_loop [1,2] (fun vn vt=>(vn = .int .i64 0∧vt = .int .u64 18446744073709551615)∨(vn = .int .i64 1∧vt = .int .u64 72057594037927935)∨(vn = .int .i64 2∧vt = .int .u64 281474976710655)∨(vn = .int .i64 3∧vt = .int .u64 1099511627775)∨(vn = .int .i64 4∧vt = .int .u64 4294967295)∨(vn = .int .i64 5∧vt = .int .u64 16777215)∨(vn = .int .i64 6∧vt = .int .u64 65535)∨(vn = .int .i64 7∧vt = .int .u64 255)∨(vn = .int .i64 8∧vt = .int .u64 0)) (fun vn _=>8-(intOf vn).toNat)
 case atStart=>exact .inl ⟨rfl,rfl⟩
 case round=>
  rcases hrel with ⟨rfl,rfl⟩ | ⟨rfl,rfl⟩ | ⟨rfl,rfl⟩ | ⟨rfl,rfl⟩ | ⟨rfl,rfl⟩ | ⟨rfl,rfl⟩ | ⟨rfl,rfl⟩ | ⟨rfl,rfl⟩ | ⟨rfl,rfl⟩
  ·go_wp2
   go_round
   case rel=>exact .inr (.inl ⟨rfl,rfl⟩)
   case measure=>decide
  ·go_wp2
   go_round
   case rel=>exact .inr (.inr (.inl ⟨rfl,rfl⟩))
   case measure=>decide
  ·go_wp2
   go_round
   case rel=>exact .inr (.inr (.inr (.inl ⟨rfl,rfl⟩)))
   case measure=>decide
  ·go_wp2
   go_round
   case rel=>exact .inr (.inr (.inr (.inr (.inl ⟨rfl,rfl⟩))))
   case measure=>decide
  ·go_wp2
   go_round
   case rel=>exact .inr (.inr (.inr (.inr (.inr (.inl ⟨rfl,rfl⟩)))))
   case measure=>decide
  ·go_wp2
   go_round
   case rel=>exact .inr (.inr (.inr (.inr (.inr (.inr (.inl ⟨rfl,rfl⟩))))))
   case measure=>decide
  ·go_wp2
   go_round
   case rel=>exact .inr (.inr (.inr (.inr (.inr (.inr (.inr (.inl ⟨rfl,rfl⟩)))))))
   case measure=>decide
  ·go_wp2
   go_round
   case rel=>exact .inr (.inr (.inr (.inr (.inr (.inr (.inr (.inr (⟨rfl,rfl⟩))))))))
   case measure=>decide
  go_wp2
  go_ret
  exact⟨rfl,rfl⟩
end Go.Proofs.YtpojjmbalgmcoaaGreat
