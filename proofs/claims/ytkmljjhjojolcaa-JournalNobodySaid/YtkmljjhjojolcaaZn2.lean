/- What is shown of the program on the way to the law. -/
import Derived.Test.YtkmljjhjojolcaaZn1
set_option linter.unusedVariables false
set_option linter.unusedSimpArgs false
namespace Go.Lx
structure arr3_List_UInt8 where
 e0_ : List UInt8
 e1_ : List UInt8
 e2_ : List UInt8
 deriving DecidableEq, Inhabited
structure disk_Disk where
 files_ : arr3_List_UInt8
 room_ : Int
 off_ : Bool
 armed_ : Bool
 left_ : Int
 deriving DecidableEq, Inhabited
structure journal_record where
 label_ : Int
 data_ : List UInt8
 deriving DecidableEq, Inhabited
structure journal_book where
 l_ : List journal_record
 deriving DecidableEq, Inhabited
structure journal_Journal where
 book_ : journal_book
 gen_ : Int
 place_ : Int
 deriving DecidableEq, Inhabited
structure octet_source where
 b_ : List UInt8
 at_ : Int
 err_ : Int
 made_ : Bool
 deriving DecidableEq, Inhabited
structure octet_Reader where
 source_ : octet_source
 deriving DecidableEq, Inhabited
end Go.Lx

